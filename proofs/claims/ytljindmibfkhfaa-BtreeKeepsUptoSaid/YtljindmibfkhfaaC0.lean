import Derived.Test.YtljindmibfkhfaaProg
import Derived.Test.YtljindmibfkhfaaHM
import Derived.Test.YtljindmibfkhfaaHP
import Derived.Test.YtljindmibfkhfaaHR
import Derived.KernelRfl
set_option linter.unusedVariables false
namespace Go.Proofs.Ytljindmibfkhfaa.Hc
open Go Go.H Go.Proofs
set_option maxRecDepth 100000
/-- 2: gosem.cut.init -/
def ac2 : ACode :=
 (.ops [
 ⟨(some 0), (.raw ⟨(some 0), (.call ⟨(.value (.func 1)), #[], #[]⟩), 0, "", #[], none⟩), none⟩])
theorem c2 {args : Array Value} {h : Heap} {R : Ending → Heap → Prop} (ha : args.size ≤ 1) (hh : aexec Try.prog ac2 (abody [] R) ⟨initFr args.toList, []⟩ h) : HCalls Try.prog 2 args h R :=
  hcalls_of Try.func2 rfl rfl (by kernel_rfl) (by kernel_rfl) ha hh
/-- 3: credenza/credenzalaw18.BtreeScans -/
def ac3 : ACode :=
 (.seq (.ops [
  ⟨(some 6), (.mv (.const (.bool false))), none⟩])
 (.seq (.ops [
   ⟨(some 20), (.callF 5 []), none⟩, 
   ⟨(some 7), (.mv (.tmp 20)), none⟩])
  (.seq (.ops [
    ⟨(some 21), (.callF 6 []), none⟩, 
    ⟨(some 8), (.mv (.tmp 21)), none⟩])
   (.seq (.seq (.ops [
      ⟨(some 22), (.mv (.tmp 8)), none⟩, 
      ⟨(some 23), (.isNil 1 false (.tmp 22)), none⟩, 
      ⟨(some 24), (.mv (.tmp 23)), none⟩, 
      ⟨(some 25), (.mv (.tmp 0)), (some (24, false))⟩, 
      ⟨(some 26), (.lenSl (.tmp 25)), (some (24, false))⟩, 
      ⟨(some 27), (.bin .gtr (.tmp 26) (.const (.int .i64 100))), (some (24, false))⟩, 
      ⟨(some 28), (.pick (.tmp 24) (.const (.bool true)) (.tmp 27)), none⟩])
     (.cond (.tmp 28)
      (.seq (.ops [
        ⟨(some 29), (.mv (.tmp 7)), none⟩, 
        ⟨(some 30), (.mv (.tmp 29)), none⟩, 
        ⟨(some 31), (.mv (.tmp 8)), (some (30, true))⟩, 
        ⟨(some 32), (.isNil 1 true (.tmp 31)), (some (30, true))⟩, 
        ⟨(some 33), (.pick (.tmp 30) (.tmp 32) (.const (.bool false))), none⟩, 
        ⟨(some 6), (.mv (.tmp 33)), none⟩])
       .ret)
      .skip))
    (.seq (.ops [
      ⟨(some 9), (.mv (.const (.int .i64 0))), none⟩])
     (.seq (.seq (.ops [
        ⟨(some 34), (.mv (.tmp 0)), none⟩, 
        ⟨(some 35), (.lenSl (.tmp 34)), none⟩, 
        ⟨(some 36), (.mv (.const (.int .i64 0))), none⟩])
       (.block 0
        (.loop
         (.seq (.ops [
           ⟨(some 37), (.bin .lss (.tmp 36) (.tmp 35)), none⟩])
          (.seq (.cond (.tmp 37)
            .skip
            (.exit 0))
           (.seq (.block 1
             (.seq (.ops [
               ⟨(some 38), (.idxSl 7 (.tmp 34) (.tmp 36)), none⟩, 
               ⟨(some 39), (.loadN 7 (.tmp 38)), none⟩, 
               ⟨(some 11), (.new 27 [(.int .i64 0), (.int .i64 0), (.int .i64 0), (.string ⟨#[]⟩), (.string ⟨#[]⟩), (.bool false), (.bool false)]), none⟩, 
               ⟨none, (.storeN 7 (.tmp 11) (.tmp 39)), none⟩])
              (.seq (.ops [
                ⟨(some 41), (.mv (.tmp 8)), none⟩, 
                ⟨(some 42), (.mv (.tmp 9)), none⟩, 
                ⟨(some 43), (.fieldAddr 3 (.tmp 11)), none⟩, 
                ⟨(some 44), (.load1 (.tmp 43)), none⟩, 
                ⟨(some 45), (.callF 7 [(.tmp 41), (.tmp 42), (.tmp 44), (.const (.string ⟨#[118]⟩))]), none⟩, 
                ⟨(some 40), (.mv (.tmp 45)), none⟩, 
                ⟨(some 46), (.extract (.tmp 40) 0), none⟩, 
                ⟨(some 47), (.extract (.tmp 40) 1), none⟩, 
                ⟨(some 12), (.mv (.tmp 46)), none⟩, 
                ⟨(some 13), (.mv (.tmp 47)), none⟩])
               (.seq (.ops [
                 ⟨(some 48), (.mv (.tmp 13)), none⟩, 
                 ⟨(some 49), (.bin .eql (.tmp 48) (.const (.int .i64 0))), none⟩])
                (.cond (.tmp 49)
                 (.ops [
                  ⟨(some 50), (.mv (.tmp 12)), none⟩, 
                  ⟨(some 9), (.mv (.tmp 50)), none⟩])
                 .skip)))))
            (.ops [
             ⟨(some 51), (.bin .add (.tmp 36) (.const (.int .i64 1))), none⟩, 
             ⟨(some 36), (.mv (.tmp 51)), none⟩])))))))
      (.seq (.ops [
        ⟨(some 52), (.mv (.tmp 8)), none⟩, 
        ⟨(some 53), (.mv (.tmp 9)), none⟩, 
        ⟨(some 54), (.callF 8 [(.tmp 52), (.tmp 53), (.const (.string ⟨#[]⟩)), (.const (.string ⟨#[]⟩)), (.const (.bool true)), (.const (.bool false)), (.const (.int .i64 1000))]), none⟩, 
        ⟨(some 14), (.mv (.tmp 54)), none⟩])
       (.seq (.ops [
         ⟨(some 55), (.mv (.tmp 8)), none⟩, 
         ⟨(some 56), (.mv (.tmp 9)), none⟩, 
         ⟨(some 57), (.callF 8 [(.tmp 55), (.tmp 56), (.const (.string ⟨#[]⟩)), (.const (.string ⟨#[]⟩)), (.const (.bool true)), (.const (.bool true)), (.const (.int .i64 1000))]), none⟩, 
         ⟨(some 15), (.mv (.tmp 57)), none⟩])
        (.seq (.seq (.ops [
           ⟨(some 58), (.mv (.tmp 14)), none⟩, 
           ⟨(some 59), (.lenSl (.tmp 58)), none⟩, 
           ⟨(some 60), (.mv (.tmp 15)), none⟩, 
           ⟨(some 61), (.lenSl (.tmp 60)), none⟩, 
           ⟨(some 62), (.bin .neq (.tmp 59) (.tmp 61)), none⟩])
          (.cond (.tmp 62)
           (.seq (.ops [
             ⟨(some 6), (.mv (.const (.bool false))), none⟩])
            .ret)
           .skip))
         (.seq (.seq (.ops [
            ⟨(some 63), (.mv (.tmp 14)), none⟩, 
            ⟨(some 64), (.lenSl (.tmp 63)), none⟩, 
            ⟨(some 65), (.mv (.const (.int .i64 0))), none⟩])
           (.block 2
            (.loop
             (.seq (.ops [
               ⟨(some 66), (.bin .lss (.tmp 65) (.tmp 64)), none⟩])
              (.seq (.cond (.tmp 66)
                .skip
                (.exit 2))
               (.seq (.block 3
                 (.seq (.ops [
                   ⟨(some 67), (.mv (.tmp 65)), none⟩, 
                   ⟨(some 16), (.mv (.tmp 67)), none⟩])
                  (.seq (.any [68, 69, 70, 71, 72, 73, 74, 75, 76, 77, 78, 79, 80] [
                    ⟨(some 68), (.mv (.tmp 14)), none⟩, 
                    ⟨(some 69), (.mv (.tmp 16)), none⟩, 
                    ⟨(some 70), (.idxSl 2 (.tmp 68) (.tmp 69)), none⟩, 
                    ⟨(some 71), (.loadN 2 (.tmp 70)), none⟩, 
                    ⟨(some 72), (.mv (.tmp 15)), none⟩, 
                    ⟨(some 73), (.mv (.tmp 15)), none⟩, 
                    ⟨(some 74), (.lenSl (.tmp 73)), none⟩, 
                    ⟨(some 75), (.bin .sub (.tmp 74) (.const (.int .i64 1))), none⟩, 
                    ⟨(some 76), (.mv (.tmp 16)), none⟩, 
                    ⟨(some 77), (.bin .sub (.tmp 75) (.tmp 76)), none⟩, 
                    ⟨(some 78), (.idxSl 2 (.tmp 72) (.tmp 77)), none⟩, 
                    ⟨(some 79), (.loadN 2 (.tmp 78)), none⟩, 
                    ⟨(some 80), (.raw ⟨(some 80), (.binOp .neq 34 (.tmp 71) (.tmp 79) 34), 4, "law.go:346", #[⟨3, .data⟩, ⟨11, .data⟩], none⟩), none⟩])
                   (.cond (.tmp 80)
                    (.seq (.ops [
                      ⟨(some 6), (.mv (.const (.bool false))), none⟩])
                     .ret)
                    .skip))))
                (.ops [
                 ⟨(some 81), (.bin .add (.tmp 65) (.const (.int .i64 1))), none⟩, 
                 ⟨(some 65), (.mv (.tmp 81)), none⟩])))))))
          (.seq (.ops [
            ⟨(some 82), (.mv (.tmp 8)), none⟩, 
            ⟨(some 83), (.mv (.tmp 9)), none⟩, 
            ⟨(some 84), (.mv (.tmp 1)), none⟩, 
            ⟨(some 85), (.callF 8 [(.tmp 82), (.tmp 83), (.const (.string ⟨#[]⟩)), (.tmp 84), (.const (.bool false)), (.const (.bool false)), (.const (.int .i64 1000))]), none⟩, 
            ⟨(some 17), (.mv (.tmp 85)), none⟩])
           (.seq (.ops [
             ⟨(some 86), (.mv (.tmp 8)), none⟩, 
             ⟨(some 87), (.mv (.tmp 9)), none⟩, 
             ⟨(some 88), (.mv (.tmp 1)), none⟩, 
             ⟨(some 89), (.callF 8 [(.tmp 86), (.tmp 87), (.tmp 88), (.const (.string ⟨#[]⟩)), (.const (.bool true)), (.const (.bool false)), (.const (.int .i64 1000))]), none⟩, 
             ⟨(some 18), (.mv (.tmp 89)), none⟩])
            (.seq (.ops [
              ⟨(some 90), (.mv (.tmp 8)), none⟩, 
              ⟨(some 91), (.mv (.tmp 9)), none⟩, 
              ⟨(some 92), (.mv (.tmp 2)), none⟩, 
              ⟨(some 93), (.callF 8 [(.tmp 90), (.tmp 91), (.const (.string ⟨#[]⟩)), (.const (.string ⟨#[]⟩)), (.const (.bool true)), (.const (.bool false)), (.tmp 92)]), none⟩, 
              ⟨(some 19), (.mv (.tmp 93)), none⟩])
             (.seq (.ops [
               ⟨(some 94), (.mv (.tmp 7)), none⟩, 
               ⟨(some 95), (.mv (.tmp 94)), none⟩, 
               ⟨(some 96), (.mv (.tmp 17)), (some (95, true))⟩, 
               ⟨(some 97), (.append 34 2 32 [(.string ⟨#[]⟩), (.string ⟨#[]⟩)] (.const (.slice none 0 0)) (.tmp 96)), (some (95, true))⟩, 
               ⟨(some 98), (.mv (.tmp 18)), (some (95, true))⟩, 
               ⟨(some 99), (.append 34 2 32 [(.string ⟨#[]⟩), (.string ⟨#[]⟩)] (.tmp 97) (.tmp 98)), (some (95, true))⟩, 
               ⟨(some 100), (.mv (.tmp 14)), (some (95, true))⟩, 
               ⟨(some 101), (.callF 9 [(.tmp 99), (.tmp 100)]), (some (95, true))⟩, 
               ⟨(some 102), (.pick (.tmp 95) (.tmp 101) (.const (.bool false))), none⟩, 
               ⟨(some 103), (.mv (.tmp 102)), none⟩, 
               ⟨(some 104), (.mv (.tmp 19)), (some (103, true))⟩, 
               ⟨(some 105), (.mv (.tmp 14)), (some (103, true))⟩, 
               ⟨(some 106), (.mv (.tmp 2)), (some (103, true))⟩, 
               ⟨(some 107), (.minmax true (.tmp 106) [(.const (.int .i64 0))]), (some (103, true))⟩, 
               ⟨(some 108), (.mv (.tmp 14)), (some (103, true))⟩, 
               ⟨(some 109), (.lenSl (.tmp 108)), (some (103, true))⟩, 
               ⟨(some 110), (.minmax false (.tmp 107) [(.tmp 109)]), (some (103, true))⟩, 
               ⟨(some 111), (.sliceSl 2 (.tmp 105) none (some (.tmp 110)) none), (some (103, true))⟩, 
               ⟨(some 112), (.callF 9 [(.tmp 104), (.tmp 111)]), (some (103, true))⟩, 
               ⟨(some 113), (.pick (.tmp 103) (.tmp 112) (.const (.bool false))), none⟩, 
               ⟨(some 6), (.mv (.tmp 113)), none⟩])
              .ret))))))))))))))
theorem c3 {args : Array Value} {h : Heap} {R : Ending → Heap → Prop} (ha : args.size ≤ 114) (hh : aexec Try.prog ac3 (abody [(.slot 6)] R) ⟨initFr args.toList, []⟩ h) : HCalls Try.prog 3 args h R :=
  hcalls_of Try.func3 rfl rfl (by kernel_rfl) (by kernel_rfl) ha hh
/-- 4: credenza/credenzalaw18.BtreeKeeps -/
def ac4 : ACode :=
 (.seq (.ops [
  ⟨(some 2), (.mv (.const (.bool false))), none⟩])
 (.seq (.ops [
   ⟨(some 20), (.callF 5 []), none⟩, 
   ⟨(some 3), (.mv (.tmp 20)), none⟩])
  (.seq (.ops [
    ⟨(some 21), (.callF 6 []), none⟩, 
    ⟨(some 4), (.mv (.tmp 21)), none⟩])
   (.seq (.seq (.ops [
      ⟨(some 22), (.mv (.tmp 4)), none⟩, 
      ⟨(some 23), (.isNil 1 false (.tmp 22)), none⟩, 
      ⟨(some 24), (.mv (.tmp 23)), none⟩, 
      ⟨(some 25), (.mv (.tmp 0)), (some (24, false))⟩, 
      ⟨(some 26), (.lenSl (.tmp 25)), (some (24, false))⟩, 
      ⟨(some 27), (.bin .gtr (.tmp 26) (.const (.int .i64 100))), (some (24, false))⟩, 
      ⟨(some 28), (.pick (.tmp 24) (.const (.bool true)) (.tmp 27)), none⟩])
     (.cond (.tmp 28)
      (.seq (.ops [
        ⟨(some 29), (.mv (.tmp 3)), none⟩, 
        ⟨(some 30), (.mv (.tmp 29)), none⟩, 
        ⟨(some 31), (.mv (.tmp 4)), (some (30, true))⟩, 
        ⟨(some 32), (.isNil 1 true (.tmp 31)), (some (30, true))⟩, 
        ⟨(some 33), (.pick (.tmp 30) (.tmp 32) (.const (.bool false))), none⟩, 
        ⟨(some 2), (.mv (.tmp 33)), none⟩])
       .ret)
      .skip))
    (.seq (.ops [
      ⟨(some 5), (.mv (.const (.int .i64 0))), none⟩])
     (.seq (.ops [
       ⟨(some 6), (.mv (.const (.slice none 0 0))), none⟩])
      (.seq (.seq (.ops [
         ⟨(some 34), (.mv (.tmp 0)), none⟩, 
         ⟨(some 35), (.lenSl (.tmp 34)), none⟩, 
         ⟨(some 36), (.mv (.const (.int .i64 0))), none⟩])
        (.block 0
         (.loop
          (.seq (.ops [
            ⟨(some 37), (.bin .lss (.tmp 36) (.tmp 35)), none⟩])
           (.seq (.cond (.tmp 37)
             .skip
             (.exit 0))
            (.seq (.block 1
              (.seq (.ops [
                ⟨(some 38), (.idxSl 7 (.tmp 34) (.tmp 36)), none⟩, 
                ⟨(some 39), (.loadN 7 (.tmp 38)), none⟩, 
                ⟨(some 8), (.new 27 [(.int .i64 0), (.int .i64 0), (.int .i64 0), (.string ⟨#[]⟩), (.string ⟨#[]⟩), (.bool false), (.bool false)]), none⟩, 
                ⟨none, (.storeN 7 (.tmp 8) (.tmp 39)), none⟩])
               (.seq (.seq (.ops [
                  ⟨(some 41), (.mv (.tmp 4)), none⟩, 
                  ⟨(some 42), (.mv (.tmp 5)), none⟩, 
                  ⟨(some 43), (.fieldAddr 3 (.tmp 8)), none⟩, 
                  ⟨(some 44), (.load1 (.tmp 43)), none⟩, 
                  ⟨(some 45), (.fieldAddr 4 (.tmp 8)), none⟩, 
                  ⟨(some 46), (.load1 (.tmp 45)), none⟩, 
                  ⟨(some 47), (.callF 7 [(.tmp 41), (.tmp 42), (.tmp 44), (.tmp 46)]), none⟩, 
                  ⟨(some 40), (.mv (.tmp 47)), none⟩, 
                  ⟨(some 48), (.extract (.tmp 40) 0), none⟩, 
                  ⟨(some 49), (.extract (.tmp 40) 1), none⟩, 
                  ⟨(some 9), (.mv (.tmp 48)), none⟩, 
                  ⟨(some 10), (.mv (.tmp 49)), none⟩])
                 (.seq (.ops [
                   ⟨(some 50), (.mv (.tmp 10)), none⟩, 
                   ⟨(some 51), (.bin .eql (.tmp 50) (.const (.int .i64 0))), none⟩])
                  (.cond (.tmp 51)
                   (.seq (.ops [
                     ⟨(some 52), (.mv (.tmp 9)), none⟩, 
                     ⟨(some 5), (.mv (.tmp 52)), none⟩])
                    (.ops [
                     ⟨(some 53), (.mv (.tmp 6)), none⟩, 
                     ⟨(some 54), (.fieldAddr 3 (.tmp 8)), none⟩, 
                     ⟨(some 55), (.load1 (.tmp 54)), none⟩, 
                     ⟨(some 56), (.fieldAddr 4 (.tmp 8)), none⟩, 
                     ⟨(some 57), (.load1 (.tmp 56)), none⟩, 
                     ⟨(some 58), (.callF 10 [(.tmp 53), (.tmp 55), (.tmp 57)]), none⟩, 
                     ⟨(some 6), (.mv (.tmp 58)), none⟩]))
                   .skip)))
                (.seq (.ops [
                  ⟨(some 60), (.mv (.tmp 4)), none⟩, 
                  ⟨(some 61), (.mv (.tmp 5)), none⟩, 
                  ⟨(some 62), (.callF 11 [(.tmp 60), (.tmp 61)]), none⟩, 
                  ⟨(some 59), (.mv (.tmp 62)), none⟩, 
                  ⟨(some 63), (.extract (.tmp 59) 0), none⟩, 
                  ⟨(some 64), (.extract (.tmp 59) 1), none⟩, 
                  ⟨(some 11), (.new 41 [(.slice none 0 0), (.slice none 0 0), (.slice none 0 0)]), none⟩, 
                  ⟨none, (.storeN 3 (.tmp 11) (.tmp 63)), none⟩, 
                  ⟨(some 12), (.mv (.tmp 64)), none⟩])
                 (.seq (.seq (.ops [
                    ⟨(some 65), (.fieldAddr 0 (.tmp 11)), none⟩, 
                    ⟨(some 66), (.load1 (.tmp 65)), none⟩, 
                    ⟨(some 67), (.lenSl (.tmp 66)), none⟩, 
                    ⟨(some 68), (.mv (.const (.int .i64 0))), none⟩])
                   (.block 2
                    (.loop
                     (.seq (.ops [
                       ⟨(some 69), (.bin .lss (.tmp 68) (.tmp 67)), none⟩])
                      (.seq (.cond (.tmp 69)
                        .skip
                        (.exit 2))
                       (.seq (.block 3
                         (.seq (.ops [
                           ⟨(some 70), (.mv (.tmp 68)), none⟩, 
                           ⟨(some 13), (.mv (.tmp 70)), none⟩])
                          (.ops [
                           ⟨(some 71), (.fieldAddr 0 (.tmp 11)), none⟩, 
                           ⟨(some 72), (.load1 (.tmp 71)), none⟩, 
                           ⟨(some 73), (.mv (.tmp 13)), none⟩, 
                           ⟨(some 74), (.idxSl 1 (.tmp 72) (.tmp 73)), none⟩, 
                           ⟨none, (.store1 (.tmp 74) (.const (.string ⟨#[122, 122, 122]⟩))), none⟩])))
                        (.ops [
                         ⟨(some 75), (.bin .add (.tmp 68) (.const (.int .i64 1))), none⟩, 
                         ⟨(some 68), (.mv (.tmp 75)), none⟩])))))))
                  (.seq (.seq (.ops [
                     ⟨(some 76), (.fieldAddr 1 (.tmp 11)), none⟩, 
                     ⟨(some 77), (.load1 (.tmp 76)), none⟩, 
                     ⟨(some 78), (.lenSl (.tmp 77)), none⟩, 
                     ⟨(some 79), (.mv (.const (.int .i64 0))), none⟩])
                    (.block 4
                     (.loop
                      (.seq (.ops [
                        ⟨(some 80), (.bin .lss (.tmp 79) (.tmp 78)), none⟩])
                       (.seq (.cond (.tmp 80)
                         .skip
                         (.exit 4))
                        (.seq (.block 5
                          (.seq (.ops [
                            ⟨(some 81), (.mv (.tmp 79)), none⟩, 
                            ⟨(some 14), (.mv (.tmp 81)), none⟩])
                           (.ops [
                            ⟨(some 82), (.fieldAddr 1 (.tmp 11)), none⟩, 
                            ⟨(some 83), (.load1 (.tmp 82)), none⟩, 
                            ⟨(some 84), (.mv (.tmp 14)), none⟩, 
                            ⟨(some 85), (.idxSl 1 (.tmp 83) (.tmp 84)), none⟩, 
                            ⟨none, (.store1 (.tmp 85) (.const (.string ⟨#[122, 122, 122]⟩))), none⟩])))
                         (.ops [
                          ⟨(some 86), (.bin .add (.tmp 79) (.const (.int .i64 1))), none⟩, 
                          ⟨(some 79), (.mv (.tmp 86)), none⟩])))))))
                   (.seq (.ops [
                     ⟨(some 87), (.fieldAddr 2 (.tmp 11)), none⟩, 
                     ⟨(some 88), (.load1 (.tmp 87)), none⟩, 
                     ⟨(some 89), (.lenSl (.tmp 88)), none⟩, 
                     ⟨(some 90), (.mv (.const (.int .i64 0))), none⟩])
                    (.block 6
                     (.loop
                      (.seq (.ops [
                        ⟨(some 91), (.bin .lss (.tmp 90) (.tmp 89)), none⟩])
                       (.seq (.cond (.tmp 91)
                         .skip
                         (.exit 6))
                        (.seq (.block 7
                          (.seq (.ops [
                            ⟨(some 92), (.mv (.tmp 90)), none⟩, 
                            ⟨(some 15), (.mv (.tmp 92)), none⟩])
                           (.ops [
                            ⟨(some 93), (.fieldAddr 2 (.tmp 11)), none⟩, 
                            ⟨(some 94), (.load1 (.tmp 93)), none⟩, 
                            ⟨(some 95), (.mv (.tmp 15)), none⟩, 
                            ⟨(some 96), (.idxSl 1 (.tmp 94) (.tmp 95)), none⟩, 
                            ⟨none, (.store1 (.tmp 96) (.const (.int .i64 0))), none⟩])))
                         (.ops [
                          ⟨(some 97), (.bin .add (.tmp 90) (.const (.int .i64 1))), none⟩, 
                          ⟨(some 90), (.mv (.tmp 97)), none⟩])))))))))))))
             (.ops [
              ⟨(some 98), (.bin .add (.tmp 36) (.const (.int .i64 1))), none⟩, 
              ⟨(some 36), (.mv (.tmp 98)), none⟩])))))))
       (.seq (.ops [
         ⟨(some 99), (.buildSlice 9 1 [(.string ⟨#[]⟩)] [(0, 1, (.const (.string ⟨#[107]⟩)))]), none⟩, 
         ⟨(some 100), (.buildSlice 9 1 [(.string ⟨#[]⟩)] [(0, 1, (.const (.string ⟨#[118]⟩)))]), none⟩, 
         ⟨(some 101), (.build [(.slice none 0 0), (.slice none 0 0), (.slice none 0 0)] [(0, 1, (.tmp 99)), (1, 1, (.tmp 100))]), none⟩, 
         ⟨(some 16), (.new 41 [(.slice none 0 0), (.slice none 0 0), (.slice none 0 0)]), none⟩, 
         ⟨none, (.storeN 3 (.tmp 16) (.tmp 101)), none⟩])
        (.seq (.ops [
          ⟨(some 102), (.mv (.tmp 4)), none⟩, 
          ⟨(some 103), (.loadN 3 (.tmp 16)), none⟩, 
          ⟨(some 104), (.callF 12 [(.tmp 102), (.const (.int .i64 2000000000)), (.tmp 103)]), none⟩, 
          ⟨(some 17), (.mv (.tmp 104)), none⟩])
         (.seq (.ops [
           ⟨(some 105), (.fieldAddr 0 (.tmp 16)), none⟩, 
           ⟨(some 106), (.load1 (.tmp 105)), none⟩, 
           ⟨(some 107), (.idxSl 1 (.tmp 106) (.const (.int .i64 0))), none⟩, 
           ⟨none, (.store1 (.tmp 107) (.const (.string ⟨#[120]⟩))), none⟩])
          (.seq (.ops [
            ⟨(some 109), (.mv (.tmp 4)), none⟩, 
            ⟨(some 110), (.callF 11 [(.tmp 109), (.const (.int .i64 2000000000))]), none⟩, 
            ⟨(some 108), (.mv (.tmp 110)), none⟩, 
            ⟨(some 111), (.extract (.tmp 108) 0), none⟩, 
            ⟨(some 112), (.extract (.tmp 108) 1), none⟩, 
            ⟨(some 18), (.new 41 [(.slice none 0 0), (.slice none 0 0), (.slice none 0 0)]), none⟩, 
            ⟨none, (.storeN 3 (.tmp 18) (.tmp 111)), none⟩, 
            ⟨(some 19), (.mv (.tmp 112)), none⟩])
           (.seq (.ops [
             ⟨(some 113), (.mv (.tmp 3)), none⟩, 
             ⟨(some 114), (.mv (.tmp 113)), none⟩, 
             ⟨(some 115), (.mv (.tmp 17)), (some (114, true))⟩, 
             ⟨(some 116), (.bin .eql (.tmp 115) (.const (.int .i64 0))), (some (114, true))⟩, 
             ⟨(some 117), (.pick (.tmp 114) (.tmp 116) (.const (.bool false))), none⟩, 
             ⟨(some 118), (.mv (.tmp 117)), none⟩, 
             ⟨(some 119), (.mv (.tmp 19)), (some (118, true))⟩, 
             ⟨(some 120), (.pick (.tmp 118) (.tmp 119) (.const (.bool false))), none⟩, 
             ⟨(some 121), (.mv (.tmp 120)), none⟩, 
             ⟨(some 122), (.fieldAddr 0 (.tmp 18)), (some (121, true))⟩, 
             ⟨(some 123), (.load1 (.tmp 122)), (some (121, true))⟩, 
             ⟨(some 124), (.lenSl (.tmp 123)), (some (121, true))⟩, 
             ⟨(some 125), (.bin .eql (.tmp 124) (.const (.int .i64 1))), (some (121, true))⟩, 
             ⟨(some 126), (.pick (.tmp 121) (.tmp 125) (.const (.bool false))), none⟩, 
             ⟨(some 127), (.mv (.tmp 126)), none⟩, 
             ⟨(some 128), (.fieldAddr 0 (.tmp 18)), (some (127, true))⟩, 
             ⟨(some 129), (.load1 (.tmp 128)), (some (127, true))⟩, 
             ⟨(some 130), (.idxSl 1 (.tmp 129) (.const (.int .i64 0))), (some (127, true))⟩, 
             ⟨(some 131), (.load1 (.tmp 130)), (some (127, true))⟩, 
             ⟨(some 132), (.bin .eql (.tmp 131) (.const (.string ⟨#[107]⟩))), (some (127, true))⟩, 
             ⟨(some 133), (.pick (.tmp 127) (.tmp 132) (.const (.bool false))), none⟩, 
             ⟨(some 134), (.mv (.tmp 133)), none⟩, 
             ⟨(some 135), (.mv (.tmp 4)), (some (134, true))⟩, 
             ⟨(some 136), (.mv (.tmp 5)), (some (134, true))⟩, 
             ⟨(some 137), (.callF 8 [(.tmp 135), (.tmp 136), (.const (.string ⟨#[]⟩)), (.const (.string ⟨#[]⟩)), (.const (.bool true)), (.const (.bool false)), (.const (.int .i64 1000))]), (some (134, true))⟩, 
             ⟨(some 138), (.mv (.tmp 6)), (some (134, true))⟩, 
             ⟨(some 139), (.callF 9 [(.tmp 137), (.tmp 138)]), (some (134, true))⟩, 
             ⟨(some 140), (.pick (.tmp 134) (.tmp 139) (.const (.bool false))), none⟩, 
             ⟨(some 2), (.mv (.tmp 140)), none⟩])
            .ret))))))))))))
theorem c4 {args : Array Value} {h : Heap} {R : Ending → Heap → Prop} (ha : args.size ≤ 141) (hh : aexec Try.prog ac4 (abody [(.slot 2)] R) ⟨initFr args.toList, []⟩ h) : HCalls Try.prog 4 args h R :=
  hcalls_of Try.func4 rfl rfl (by kernel_rfl) (by kernel_rfl) ha hh
/-- 5: credenza/credenzalaw18.live -/
def ac5 : ACode :=
 (.seq (.ops [
  ⟨(some 0), (.mv (.const (.bool false))), none⟩])
 (.seq (.ops [
   ⟨(some 8), (.callF 6 []), none⟩, 
   ⟨(some 1), (.mv (.tmp 8)), none⟩])
  (.seq (.seq (.ops [
     ⟨(some 9), (.mv (.tmp 1)), none⟩, 
     ⟨(some 10), (.isNil 1 false (.tmp 9)), none⟩])
    (.cond (.tmp 10)
     (.seq (.ops [
       ⟨(some 0), (.mv (.const (.bool false))), none⟩])
      .ret)
     .skip))
   (.seq (.ops [
     ⟨(some 12), (.mv (.tmp 1)), none⟩, 
     ⟨(some 13), (.callF 7 [(.tmp 12), (.const (.int .i64 0)), (.const (.string ⟨#[97]⟩)), (.const (.string ⟨#[49]⟩))]), none⟩, 
     ⟨(some 11), (.mv (.tmp 13)), none⟩, 
     ⟨(some 14), (.extract (.tmp 11) 0), none⟩, 
     ⟨(some 15), (.extract (.tmp 11) 1), none⟩, 
     ⟨(some 2), (.mv (.tmp 14)), none⟩, 
     ⟨(some 3), (.mv (.tmp 15)), none⟩])
    (.seq (.ops [
      ⟨(some 17), (.mv (.tmp 1)), none⟩, 
      ⟨(some 18), (.mv (.tmp 2)), none⟩, 
      ⟨(some 19), (.callF 7 [(.tmp 17), (.tmp 18), (.const (.string ⟨#[98]⟩)), (.const (.string ⟨#[50]⟩))]), none⟩, 
      ⟨(some 16), (.mv (.tmp 19)), none⟩, 
      ⟨(some 20), (.extract (.tmp 16) 0), none⟩, 
      ⟨(some 21), (.extract (.tmp 16) 1), none⟩, 
      ⟨(some 4), (.mv (.tmp 20)), none⟩, 
      ⟨(some 5), (.mv (.tmp 21)), none⟩])
     (.seq (.ops [
       ⟨(some 22), (.mv (.tmp 1)), none⟩, 
       ⟨(some 23), (.mv (.tmp 2)), none⟩, 
       ⟨(some 24), (.callF 8 [(.tmp 22), (.tmp 23), (.const (.string ⟨#[]⟩)), (.const (.string ⟨#[]⟩)), (.const (.bool true)), (.const (.bool false)), (.const (.int .i64 9))]), none⟩, 
       ⟨(some 6), (.mv (.tmp 24)), none⟩])
      (.seq (.ops [
        ⟨(some 25), (.mv (.tmp 1)), none⟩, 
        ⟨(some 26), (.mv (.tmp 4)), none⟩, 
        ⟨(some 27), (.callF 8 [(.tmp 25), (.tmp 26), (.const (.string ⟨#[]⟩)), (.const (.string ⟨#[]⟩)), (.const (.bool true)), (.const (.bool false)), (.const (.int .i64 9))]), none⟩, 
        ⟨(some 7), (.mv (.tmp 27)), none⟩])
       (.seq (.ops [
         ⟨(some 28), (.mv (.tmp 3)), none⟩, 
         ⟨(some 29), (.bin .eql (.tmp 28) (.const (.int .i64 0))), none⟩, 
         ⟨(some 30), (.mv (.tmp 29)), none⟩, 
         ⟨(some 31), (.mv (.tmp 5)), (some (30, true))⟩, 
         ⟨(some 32), (.bin .eql (.tmp 31) (.const (.int .i64 0))), (some (30, true))⟩, 
         ⟨(some 33), (.pick (.tmp 30) (.tmp 32) (.const (.bool false))), none⟩, 
         ⟨(some 34), (.mv (.tmp 33)), none⟩, 
         ⟨(some 35), (.mv (.tmp 6)), (some (34, true))⟩, 
         ⟨(some 36), (.build [(.string ⟨#[]⟩), (.string ⟨#[]⟩)] [(0, 1, (.const (.string ⟨#[97]⟩))), (1, 1, (.const (.string ⟨#[49]⟩)))]), (some (34, true))⟩, 
         ⟨(some 37), (.buildSlice 34 1 [(.string ⟨#[]⟩), (.string ⟨#[]⟩)] [(0, 2, (.tmp 36))]), (some (34, true))⟩, 
         ⟨(some 38), (.callF 9 [(.tmp 35), (.tmp 37)]), (some (34, true))⟩, 
         ⟨(some 39), (.pick (.tmp 34) (.tmp 38) (.const (.bool false))), none⟩, 
         ⟨(some 40), (.mv (.tmp 39)), none⟩, 
         ⟨(some 41), (.mv (.tmp 7)), (some (40, true))⟩, 
         ⟨(some 42), (.build [(.string ⟨#[]⟩), (.string ⟨#[]⟩)] [(0, 1, (.const (.string ⟨#[97]⟩))), (1, 1, (.const (.string ⟨#[49]⟩)))]), (some (40, true))⟩, 
         ⟨(some 43), (.build [(.string ⟨#[]⟩), (.string ⟨#[]⟩)] [(0, 1, (.const (.string ⟨#[98]⟩))), (1, 1, (.const (.string ⟨#[50]⟩)))]), (some (40, true))⟩, 
         ⟨(some 44), (.buildSlice 34 2 [(.string ⟨#[]⟩), (.string ⟨#[]⟩), (.string ⟨#[]⟩), (.string ⟨#[]⟩)] [(0, 2, (.tmp 42)), (2, 2, (.tmp 43))]), (some (40, true))⟩, 
         ⟨(some 45), (.callF 9 [(.tmp 41), (.tmp 44)]), (some (40, true))⟩, 
         ⟨(some 46), (.pick (.tmp 40) (.tmp 45) (.const (.bool false))), none⟩, 
         ⟨(some 47), (.mv (.tmp 46)), none⟩, 
         ⟨(some 48), (.mv (.tmp 1)), (some (47, true))⟩, 
         ⟨(some 49), (.mv (.tmp 4)), (some (47, true))⟩, 
         ⟨(some 50), (.buildSlice 3 1 [(.int .i64 0)] [(0, 1, (.tmp 49))]), (some (47, true))⟩, 
         ⟨(some 51), (.callF 13 [(.tmp 48), (.tmp 50)]), (some (47, true))⟩, 
         ⟨(some 52), (.bin .eql (.tmp 51) (.const (.int .i64 1))), (some (47, true))⟩, 
         ⟨(some 53), (.pick (.tmp 47) (.tmp 52) (.const (.bool false))), none⟩, 
         ⟨(some 0), (.mv (.tmp 53)), none⟩])
        .ret))))))))
theorem c5 {args : Array Value} {h : Heap} {R : Ending → Heap → Prop} (ha : args.size ≤ 54) (hh : aexec Try.prog ac5 (abody [(.slot 0)] R) ⟨initFr args.toList, []⟩ h) : HCalls Try.prog 5 args h R :=
  hcalls_of Try.func5 rfl rfl (by kernel_rfl) (by kernel_rfl) ha hh
/-- 6: credenza/btree.New -/
def ac6 : ACode :=
 (.seq (.ops [
  ⟨(some 0), (.mv (.const (.pointer none))), none⟩])
 (.seq (.ops [
   ⟨(some 1), .mkMap, none⟩, 
   ⟨(some 2), (.build [(.map none), (.int .i64 0)] [(0, 1, (.tmp 1)), (1, 1, (.const (.int .i64 1)))]), none⟩, 
   ⟨(some 3), (.box 49 (.tmp 2)), none⟩, 
   ⟨(some 0), (.mv (.tmp 3)), none⟩])
  .ret))
theorem c6 {args : Array Value} {h : Heap} {R : Ending → Heap → Prop} (ha : args.size ≤ 4) (hh : aexec Try.prog ac6 (abody [(.slot 0)] R) ⟨initFr args.toList, []⟩ h) : HCalls Try.prog 6 args h R :=
  hcalls_of Try.func6 rfl rfl (by kernel_rfl) (by kernel_rfl) ha hh
/-- 7: (*credenza/btree.Tree).Put -/
def ac7 : ACode :=
 (.seq (.ops [
  ⟨(some 8), (.mv (.const (.int .i64 0))), none⟩, 
  ⟨(some 9), (.mv (.const (.int .i64 0))), none⟩])
 (.seq (.seq (.ops [
    ⟨(some 12), (.mv (.tmp 2)), none⟩, 
    ⟨(some 13), (.lenStr (.tmp 12)), none⟩, 
    ⟨(some 14), (.bin .gtr (.tmp 13) (.const (.int .i64 256))), none⟩, 
    ⟨(some 15), (.mv (.tmp 14)), none⟩, 
    ⟨(some 16), (.mv (.tmp 3)), (some (15, false))⟩, 
    ⟨(some 17), (.lenStr (.tmp 16)), (some (15, false))⟩, 
    ⟨(some 18), (.bin .gtr (.tmp 17) (.const (.int .i64 1024))), (some (15, false))⟩, 
    ⟨(some 19), (.pick (.tmp 15) (.const (.bool true)) (.tmp 18)), none⟩])
   (.cond (.tmp 19)
    (.seq (.ops [
      ⟨(some 8), (.mv (.const (.int .i64 0))), none⟩, 
      ⟨(some 9), (.mv (.const (.int .i64 190))), none⟩])
     .ret)
    .skip))
  (.seq (.ops [
    ⟨(some 21), (.mv (.tmp 0)), none⟩, 
    ⟨(some 22), (.mv (.tmp 1)), none⟩, 
    ⟨(some 23), (.mv (.tmp 2)), none⟩, 
    ⟨(some 24), (.mv (.tmp 3)), none⟩, 
    ⟨(some 25), (.callF 14 [(.tmp 21), (.tmp 22), (.tmp 23), (.tmp 24), (.const (.int .i64 0))]), none⟩, 
    ⟨(some 20), (.mv (.tmp 25)), none⟩, 
    ⟨(some 26), (.extract (.tmp 20) 0), none⟩, 
    ⟨(some 27), (.extract (.tmp 20) 1), none⟩, 
    ⟨(some 10), (.mv (.tmp 26)), none⟩, 
    ⟨(some 11), (.mv (.tmp 27)), none⟩])
   (.seq (.seq (.ops [
      ⟨(some 28), (.mv (.tmp 10)), none⟩, 
      ⟨(some 29), (.lenSl (.tmp 28)), none⟩, 
      ⟨(some 30), (.bin .gtr (.tmp 29) (.const (.int .i64 1))), none⟩])
     (.cond (.tmp 30)
      (.seq (.ops [
        ⟨(some 31), (.mv (.tmp 0)), none⟩, 
        ⟨(some 32), (.mv (.tmp 11)), none⟩, 
        ⟨(some 33), (.buildSlice 9 1 [(.string ⟨#[]⟩)] [(0, 1, (.tmp 32))]), none⟩, 
        ⟨(some 34), (.mv (.tmp 10)), none⟩, 
        ⟨(some 35), (.build [(.slice none 0 0), (.slice none 0 0), (.slice none 0 0)] [(0, 1, (.tmp 33)), (2, 1, (.tmp 34))]), none⟩, 
        ⟨(some 36), (.callF 15 [(.tmp 31), (.tmp 35)]), none⟩, 
        ⟨(some 8), (.mv (.tmp 36)), none⟩, 
        ⟨(some 9), (.mv (.const (.int .i64 0))), none⟩])
       .ret)
      .skip))
    (.seq (.ops [
      ⟨(some 37), (.mv (.tmp 10)), none⟩, 
      ⟨(some 38), (.idxSl 1 (.tmp 37) (.const (.int .i64 0))), none⟩, 
      ⟨(some 39), (.load1 (.tmp 38)), none⟩, 
      ⟨(some 8), (.mv (.tmp 39)), none⟩, 
      ⟨(some 9), (.mv (.const (.int .i64 0))), none⟩])
     .ret)))))
theorem c7 {args : Array Value} {h : Heap} {R : Ending → Heap → Prop} (ha : args.size ≤ 40) (hh : aexec Try.prog ac7 (abody [(.slot 8), (.slot 9)] R) ⟨initFr args.toList, []⟩ h) : HCalls Try.prog 7 args h R :=
  hcalls_of Try.func7 rfl rfl (by kernel_rfl) (by kernel_rfl) ha hh
/-- 8: (*credenza/btree.Tree).Scan -/
def ac8 : ACode :=
 (.seq (.ops [
  ⟨(some 9), (.box 9 (.tmp 2)), none⟩, 
  ⟨(some 10), (.box 9 (.tmp 3)), none⟩, 
  ⟨(some 11), (.box 4 (.tmp 4)), none⟩, 
  ⟨(some 13), (.box 3 (.tmp 6)), none⟩, 
  ⟨(some 14), (.new 31 [(.slice none 0 0)]), none⟩])
 (.seq (.seq (.ops [
    ⟨(some 16), (.load1 (.tmp 13)), none⟩, 
    ⟨(some 17), (.bin .lss (.tmp 16) (.const (.int .i64 1))), none⟩])
   (.cond (.tmp 17)
    (.seq (.ops [
      ⟨none, (.store1 (.tmp 14) (.const (.slice none 0 0))), none⟩])
     .ret)
    .skip))
  (.seq (.ops [
    ⟨(some 18), (.mv (.tmp 0)), none⟩, 
    ⟨(some 19), (.mv (.tmp 0)), none⟩, 
    ⟨(some 20), (.nilCheck (.tmp 19)), none⟩, 
    ⟨(some 21), (.fieldAddr 0 (.tmp 20)), none⟩, 
    ⟨(some 22), (.load1 (.tmp 21)), none⟩, 
    ⟨(some 23), (.lenMap (.tmp 22)), none⟩, 
    ⟨(some 24), (.build [(.pointer none), (.int .i64 0), .nilFunc] [(0, 1, (.tmp 18)), (1, 1, (.tmp 23))]), none⟩, 
    ⟨(some 25), (.box 56 (.tmp 24)), none⟩, 
    ⟨(some 15), (.mv (.tmp 25)), none⟩])
   (.seq (.seq (.ops [
      ⟨(some 26), (.mv (.tmp 5)), none⟩])
     (.cond (.tmp 26)
      (.seq (.ops [
        ⟨(some 27), (.mv (.tmp 15)), none⟩, 
        ⟨(some 28), (.mkFunc (.func 16) [] [(.tmp 9), (.tmp 11), (.tmp 10), (.tmp 14), (.tmp 13)]), none⟩, 
        ⟨(some 29), (.nilCheck (.tmp 27)), none⟩, 
        ⟨(some 30), (.fieldAddr 2 (.tmp 29)), none⟩, 
        ⟨none, (.store1 (.tmp 30) (.tmp 28)), none⟩])
       (.seq (.ops [
         ⟨(some 31), (.mv (.tmp 15)), none⟩, 
         ⟨(some 32), (.mv (.tmp 1)), none⟩, 
         ⟨(some 33), (.callF 17 [(.tmp 31), (.tmp 32)]), none⟩])
        (.seq (.ops [
          ⟨(some 34), (.load1 (.tmp 14)), none⟩, 
          ⟨none, (.store1 (.tmp 14) (.tmp 34)), none⟩])
         .ret)))
      .skip))
    (.seq (.ops [
      ⟨(some 35), (.mv (.tmp 15)), none⟩, 
      ⟨(some 36), (.mkFunc (.func 18) [] [(.tmp 11), (.tmp 10), (.tmp 14), (.tmp 13)]), none⟩, 
      ⟨(some 37), (.nilCheck (.tmp 35)), none⟩, 
      ⟨(some 38), (.fieldAddr 2 (.tmp 37)), none⟩, 
      ⟨none, (.store1 (.tmp 38) (.tmp 36)), none⟩])
     (.seq (.ops [
       ⟨(some 39), (.mv (.tmp 15)), none⟩, 
       ⟨(some 40), (.mv (.tmp 1)), none⟩, 
       ⟨(some 41), (.load1 (.tmp 9)), none⟩, 
       ⟨(some 42), (.callF 19 [(.tmp 39), (.tmp 40), (.tmp 41)]), none⟩])
      (.seq (.ops [
        ⟨(some 43), (.load1 (.tmp 14)), none⟩, 
        ⟨none, (.store1 (.tmp 14) (.tmp 43)), none⟩])
       .ret)))))))
theorem c8 {args : Array Value} {h : Heap} {R : Ending → Heap → Prop} (ha : args.size ≤ 44) (hh : aexec Try.prog ac8 (abody [(.cell1 14)] R) ⟨initFr args.toList, []⟩ h) : HCalls Try.prog 8 args h R :=
  hcalls_of Try.func8 rfl rfl (by kernel_rfl) (by kernel_rfl) ha hh
/-- 9: credenza/credenzaref18.Same -/
def ac9 : ACode :=
 (.seq (.ops [
  ⟨(some 4), (.mv (.const (.bool false))), none⟩])
 (.seq (.seq (.ops [
    ⟨(some 6), (.mv (.tmp 0)), none⟩, 
    ⟨(some 7), (.lenSl (.tmp 6)), none⟩, 
    ⟨(some 8), (.mv (.tmp 1)), none⟩, 
    ⟨(some 9), (.lenSl (.tmp 8)), none⟩, 
    ⟨(some 10), (.bin .neq (.tmp 7) (.tmp 9)), none⟩])
   (.cond (.tmp 10)
    (.seq (.ops [
      ⟨(some 4), (.mv (.const (.bool false))), none⟩])
     .ret)
    .skip))
  (.seq (.seq (.ops [
     ⟨(some 11), (.mv (.tmp 0)), none⟩, 
     ⟨(some 12), (.lenSl (.tmp 11)), none⟩, 
     ⟨(some 13), (.mv (.const (.int .i64 0))), none⟩])
    (.block 0
     (.loop
      (.seq (.ops [
        ⟨(some 14), (.bin .lss (.tmp 13) (.tmp 12)), none⟩])
       (.seq (.cond (.tmp 14)
         .skip
         (.exit 0))
        (.seq (.block 1
          (.seq (.ops [
            ⟨(some 15), (.mv (.tmp 13)), none⟩, 
            ⟨(some 5), (.mv (.tmp 15)), none⟩])
           (.seq (.any [16, 17, 18, 19, 20, 21, 22, 23, 24] [
             ⟨(some 16), (.mv (.tmp 0)), none⟩, 
             ⟨(some 17), (.mv (.tmp 5)), none⟩, 
             ⟨(some 18), (.idxSl 2 (.tmp 16) (.tmp 17)), none⟩, 
             ⟨(some 19), (.loadN 2 (.tmp 18)), none⟩, 
             ⟨(some 20), (.mv (.tmp 1)), none⟩, 
             ⟨(some 21), (.mv (.tmp 5)), none⟩, 
             ⟨(some 22), (.idxSl 2 (.tmp 20) (.tmp 21)), none⟩, 
             ⟨(some 23), (.loadN 2 (.tmp 22)), none⟩, 
             ⟨(some 24), (.raw ⟨(some 24), (.binOp .neq 34 (.tmp 19) (.tmp 23) 34), 4, "ref.go:71", #[⟨3, .data⟩, ⟨7, .data⟩], none⟩), none⟩])
            (.cond (.tmp 24)
             (.seq (.ops [
               ⟨(some 4), (.mv (.const (.bool false))), none⟩])
              .ret)
             .skip))))
         (.ops [
          ⟨(some 25), (.bin .add (.tmp 13) (.const (.int .i64 1))), none⟩, 
          ⟨(some 13), (.mv (.tmp 25)), none⟩])))))))
   (.seq (.ops [
     ⟨(some 4), (.mv (.const (.bool true))), none⟩])
    .ret))))
theorem c9 {args : Array Value} {h : Heap} {R : Ending → Heap → Prop} (ha : args.size ≤ 26) (hh : aexec Try.prog ac9 (abody [(.slot 4)] R) ⟨initFr args.toList, []⟩ h) : HCalls Try.prog 9 args h R :=
  hcalls_of Try.func9 rfl rfl (by kernel_rfl) (by kernel_rfl) ha hh
/-- 10: credenza/credenzaref18.Put -/
def ac10 : ACode :=
 (.seq (.ops [
  ⟨(some 6), (.mv (.const (.slice none 0 0))), none⟩])
 (.seq (.ops [
   ⟨(some 7), (.mv (.const (.slice none 0 0))), none⟩])
  (.seq (.seq (.ops [
     ⟨(some 12), (.mv (.tmp 0)), none⟩, 
     ⟨(some 13), (.lenSl (.tmp 12)), none⟩, 
     ⟨(some 14), (.mv (.const (.int .i64 0))), none⟩])
    (.block 0
     (.loop
      (.seq (.ops [
        ⟨(some 15), (.bin .lss (.tmp 14) (.tmp 13)), none⟩])
       (.seq (.cond (.tmp 15)
         .skip
         (.exit 0))
        (.seq (.block 1
          (.seq (.ops [
            ⟨(some 16), (.idxSl 2 (.tmp 12) (.tmp 14)), none⟩, 
            ⟨(some 17), (.loadN 2 (.tmp 16)), none⟩, 
            ⟨(some 9), (.new 34 [(.string ⟨#[]⟩), (.string ⟨#[]⟩)]), none⟩, 
            ⟨none, (.storeN 2 (.tmp 9) (.tmp 17)), none⟩])
           (.seq (.ops [
             ⟨(some 18), (.fieldAddr 0 (.tmp 9)), none⟩, 
             ⟨(some 19), (.load1 (.tmp 18)), none⟩, 
             ⟨(some 20), (.mv (.tmp 1)), none⟩, 
             ⟨(some 21), (.bin .lss (.tmp 19) (.tmp 20)), none⟩])
            (.cond (.tmp 21)
             (.ops [
              ⟨(some 22), (.mv (.tmp 7)), none⟩, 
              ⟨(some 23), (.loadN 2 (.tmp 9)), none⟩, 
              ⟨(some 24), (.buildSlice 34 1 [(.string ⟨#[]⟩), (.string ⟨#[]⟩)] [(0, 2, (.tmp 23))]), none⟩, 
              ⟨(some 25), (.append 34 2 32 [(.string ⟨#[]⟩), (.string ⟨#[]⟩)] (.tmp 22) (.tmp 24)), none⟩, 
              ⟨(some 7), (.mv (.tmp 25)), none⟩])
             .skip))))
         (.ops [
          ⟨(some 26), (.bin .add (.tmp 14) (.const (.int .i64 1))), none⟩, 
          ⟨(some 14), (.mv (.tmp 26)), none⟩])))))))
   (.seq (.ops [
     ⟨(some 27), (.mv (.tmp 7)), none⟩, 
     ⟨(some 28), (.mv (.tmp 1)), none⟩, 
     ⟨(some 29), (.mv (.tmp 2)), none⟩, 
     ⟨(some 30), (.build [(.string ⟨#[]⟩), (.string ⟨#[]⟩)] [(0, 1, (.tmp 28)), (1, 1, (.tmp 29))]), none⟩, 
     ⟨(some 31), (.buildSlice 34 1 [(.string ⟨#[]⟩), (.string ⟨#[]⟩)] [(0, 2, (.tmp 30))]), none⟩, 
     ⟨(some 32), (.append 34 2 32 [(.string ⟨#[]⟩), (.string ⟨#[]⟩)] (.tmp 27) (.tmp 31)), none⟩, 
     ⟨(some 7), (.mv (.tmp 32)), none⟩])
    (.seq (.seq (.ops [
       ⟨(some 33), (.mv (.tmp 0)), none⟩, 
       ⟨(some 34), (.lenSl (.tmp 33)), none⟩, 
       ⟨(some 35), (.mv (.const (.int .i64 0))), none⟩])
      (.block 2
       (.loop
        (.seq (.ops [
          ⟨(some 36), (.bin .lss (.tmp 35) (.tmp 34)), none⟩])
         (.seq (.cond (.tmp 36)
           .skip
           (.exit 2))
          (.seq (.block 3
            (.seq (.ops [
              ⟨(some 37), (.idxSl 2 (.tmp 33) (.tmp 35)), none⟩, 
              ⟨(some 38), (.loadN 2 (.tmp 37)), none⟩, 
              ⟨(some 11), (.new 34 [(.string ⟨#[]⟩), (.string ⟨#[]⟩)]), none⟩, 
              ⟨none, (.storeN 2 (.tmp 11) (.tmp 38)), none⟩])
             (.seq (.ops [
               ⟨(some 39), (.fieldAddr 0 (.tmp 11)), none⟩, 
               ⟨(some 40), (.load1 (.tmp 39)), none⟩, 
               ⟨(some 41), (.mv (.tmp 1)), none⟩, 
               ⟨(some 42), (.bin .gtr (.tmp 40) (.tmp 41)), none⟩])
              (.cond (.tmp 42)
               (.ops [
                ⟨(some 43), (.mv (.tmp 7)), none⟩, 
                ⟨(some 44), (.loadN 2 (.tmp 11)), none⟩, 
                ⟨(some 45), (.buildSlice 34 1 [(.string ⟨#[]⟩), (.string ⟨#[]⟩)] [(0, 2, (.tmp 44))]), none⟩, 
                ⟨(some 46), (.append 34 2 32 [(.string ⟨#[]⟩), (.string ⟨#[]⟩)] (.tmp 43) (.tmp 45)), none⟩, 
                ⟨(some 7), (.mv (.tmp 46)), none⟩])
               .skip))))
           (.ops [
            ⟨(some 47), (.bin .add (.tmp 35) (.const (.int .i64 1))), none⟩, 
            ⟨(some 35), (.mv (.tmp 47)), none⟩])))))))
     (.seq (.ops [
       ⟨(some 48), (.mv (.tmp 7)), none⟩, 
       ⟨(some 6), (.mv (.tmp 48)), none⟩])
      .ret))))))
theorem c10 {args : Array Value} {h : Heap} {R : Ending → Heap → Prop} (ha : args.size ≤ 49) (hh : aexec Try.prog ac10 (abody [(.slot 6)] R) ⟨initFr args.toList, []⟩ h) : HCalls Try.prog 10 args h R :=
  hcalls_of Try.func10 rfl rfl (by kernel_rfl) (by kernel_rfl) ha hh
/-- 11: (*credenza/btree.Tree).Node -/
def ac11 : ACode :=
 (.seq (.ops [
  ⟨(some 4), (.new 41 [(.slice none 0 0), (.slice none 0 0), (.slice none 0 0)]), none⟩, 
  ⟨(some 5), (.mv (.const (.bool false))), none⟩])
 (.seq (.ops [
   ⟨(some 9), (.mv (.tmp 0)), none⟩, 
   ⟨(some 10), (.nilCheck (.tmp 9)), none⟩, 
   ⟨(some 11), (.fieldAddr 0 (.tmp 10)), none⟩, 
   ⟨(some 12), (.load1 (.tmp 11)), none⟩, 
   ⟨(some 13), (.mv (.tmp 1)), none⟩, 
   ⟨(some 14), (.lookMap (.int .i64) (.agg #[(.slice none 0 0), (.slice none 0 0), (.slice none 0 0)]) true (.tmp 12) (.tmp 13)), none⟩, 
   ⟨(some 8), (.mv (.tmp 14)), none⟩, 
   ⟨(some 15), (.extract (.tmp 8) 0), none⟩, 
   ⟨(some 16), (.extract (.tmp 8) 1), none⟩, 
   ⟨(some 6), (.new 41 [(.slice none 0 0), (.slice none 0 0), (.slice none 0 0)]), none⟩, 
   ⟨none, (.storeN 3 (.tmp 6) (.tmp 15)), none⟩, 
   ⟨(some 7), (.mv (.tmp 16)), none⟩])
  (.seq (.ops [
    ⟨(some 17), (.loadN 3 (.tmp 6)), none⟩, 
    ⟨(some 18), (.callF 20 [(.tmp 17)]), none⟩, 
    ⟨(some 19), (.mv (.tmp 7)), none⟩, 
    ⟨none, (.storeN 3 (.tmp 4) (.tmp 18)), none⟩, 
    ⟨(some 5), (.mv (.tmp 19)), none⟩])
   .ret)))
theorem c11 {args : Array Value} {h : Heap} {R : Ending → Heap → Prop} (ha : args.size ≤ 20) (hh : aexec Try.prog ac11 (abody [(.cellN 4 3), (.slot 5)] R) ⟨initFr args.toList, []⟩ h) : HCalls Try.prog 11 args h R :=
  hcalls_of Try.func11 rfl rfl (by kernel_rfl) (by kernel_rfl) ha hh
/-- 12: (*credenza/btree.Tree).Place -/
def ac12 : ACode :=
 (.seq (.ops [
  ⟨(some 5), (.box 41 (.tmp 2)), none⟩, 
  ⟨(some 6), (.mv (.const (.int .i64 0))), none⟩])
 (.seq (.seq (.ops [
    ⟨(some 11), (.mv (.tmp 0)), none⟩, 
    ⟨(some 12), (.nilCheck (.tmp 11)), none⟩, 
    ⟨(some 13), (.fieldAddr 0 (.tmp 12)), none⟩, 
    ⟨(some 14), (.load1 (.tmp 13)), none⟩, 
    ⟨(some 15), (.mv (.tmp 1)), none⟩, 
    ⟨(some 16), (.lookMap (.int .i64) (.agg #[(.slice none 0 0), (.slice none 0 0), (.slice none 0 0)]) true (.tmp 14) (.tmp 15)), none⟩, 
    ⟨(some 10), (.mv (.tmp 16)), none⟩, 
    ⟨(some 17), (.extract (.tmp 10) 0), none⟩, 
    ⟨(some 18), (.extract (.tmp 10) 1), none⟩, 
    ⟨(some 7), (.new 41 [(.slice none 0 0), (.slice none 0 0), (.slice none 0 0)]), none⟩, 
    ⟨none, (.storeN 3 (.tmp 7) (.tmp 17)), none⟩, 
    ⟨(some 8), (.mv (.tmp 18)), none⟩])
   (.seq (.ops [
     ⟨(some 19), (.mv (.tmp 8)), none⟩, 
     ⟨(some 20), (.mv (.tmp 19)), none⟩, 
     ⟨(some 21), (.mv (.tmp 1)), (some (20, false))⟩, 
     ⟨(some 22), (.bin .lss (.tmp 21) (.const (.int .i64 1))), (some (20, false))⟩, 
     ⟨(some 23), (.pick (.tmp 20) (.const (.bool true)) (.tmp 22)), none⟩, 
     ⟨(some 24), (.mv (.tmp 23)), none⟩, 
     ⟨(some 25), (.mv (.tmp 1)), (some (24, false))⟩, 
     ⟨(some 26), (.bin .gtr (.tmp 25) (.const (.int .i64 2147483647))), (some (24, false))⟩, 
     ⟨(some 27), (.pick (.tmp 24) (.const (.bool true)) (.tmp 26)), none⟩])
    (.cond (.tmp 27)
     (.seq (.ops [
       ⟨(some 6), (.mv (.const (.int .i64 1))), none⟩])
      .ret)
     .skip)))
  (.seq (.seq (.ops [
     ⟨(some 28), (.loadN 3 (.tmp 5)), none⟩, 
     ⟨(some 29), (.callF 21 [(.tmp 28)]), none⟩, 
     ⟨(some 9), (.mv (.tmp 29)), none⟩])
    (.seq (.ops [
      ⟨(some 30), (.mv (.tmp 9)), none⟩, 
      ⟨(some 31), (.bin .neq (.tmp 30) (.const (.int .i64 0))), none⟩])
     (.cond (.tmp 31)
      (.seq (.ops [
        ⟨(some 32), (.mv (.tmp 9)), none⟩, 
        ⟨(some 6), (.mv (.tmp 32)), none⟩])
       .ret)
      .skip)))
   (.seq (.seq (.any [33, 34, 35, 36, 37, 38, 39] [
      ⟨(some 33), (.mv (.tmp 0)), none⟩, 
      ⟨(some 34), (.nilCheck (.tmp 33)), none⟩, 
      ⟨(some 35), (.fieldAddr 0 (.tmp 34)), none⟩, 
      ⟨(some 37), (.mv (.tmp 1)), none⟩, 
      ⟨(some 38), (.loadN 3 (.tmp 5)), none⟩])
     (.alt
      (.any [33, 34, 35, 36, 37, 38, 39] [
       ⟨(some 36), (.load1 (.tmp 35)), none⟩, 
       ⟨(some 39), (.callF 20 [(.tmp 38)]), none⟩, 
       ⟨none, (.setMap (.int .i64) (.tmp 36) (.tmp 37) (.tmp 39)), none⟩])
      (.any [33, 34, 35, 36, 37, 38, 39] [
       ⟨(some 39), (.callF 20 [(.tmp 38)]), none⟩, 
       ⟨(some 36), (.load1 (.tmp 35)), none⟩, 
       ⟨none, (.setMap (.int .i64) (.tmp 36) (.tmp 37) (.tmp 39)), none⟩])))
    (.seq (.ops [
      ⟨(some 6), (.mv (.const (.int .i64 0))), none⟩])
     .ret)))))
theorem c12 {args : Array Value} {h : Heap} {R : Ending → Heap → Prop} (ha : args.size ≤ 40) (hh : aexec Try.prog ac12 (abody [(.slot 6)] R) ⟨initFr args.toList, []⟩ h) : HCalls Try.prog 12 args h R :=
  hcalls_of Try.func12 rfl rfl (by kernel_rfl) (by kernel_rfl) ha hh
/-- 13: (*credenza/btree.Tree).Keep -/
def ac13 : ACode :=
 (.seq (.ops [
  ⟨(some 2), (.box 24 (.tmp 0)), none⟩, 
  ⟨(some 4), (.mv (.const (.int .i64 0))), none⟩])
 (.seq (.ops [
   ⟨(some 10), .mkMap, none⟩, 
   ⟨(some 5), (.new 47 [(.map none)]), none⟩, 
   ⟨none, (.store1 (.tmp 5) (.tmp 10)), none⟩])
  (.seq (.seq (.ops [
     ⟨(some 11), (.mv (.tmp 1)), none⟩, 
     ⟨(some 12), (.lenSl (.tmp 11)), none⟩, 
     ⟨(some 13), (.mv (.const (.int .i64 0))), none⟩])
    (.block 0
     (.loop
      (.seq (.ops [
        ⟨(some 14), (.bin .lss (.tmp 13) (.tmp 12)), none⟩])
       (.seq (.cond (.tmp 14)
         .skip
         (.exit 0))
        (.seq (.block 1
          (.seq (.ops [
            ⟨(some 15), (.idxSl 1 (.tmp 11) (.tmp 13)), none⟩, 
            ⟨(some 16), (.load1 (.tmp 15)), none⟩, 
            ⟨(some 7), (.mv (.tmp 16)), none⟩])
           (.seq (.ops [
             ⟨(some 17), (.load1 (.tmp 2)), none⟩, 
             ⟨(some 18), (.mv (.tmp 7)), none⟩, 
             ⟨(some 19), (.callF 22 [(.tmp 17), (.tmp 18)]), none⟩])
            (.block 2
             (.range (.tmp 19) [20]
              (.ops [
               ⟨(some 8), (.mv (.tmp 20)), none⟩])
              (.block 3
               (.seq (.any [21, 22, 23, 24, 25, 26, 27, 28] [
                 ⟨(some 22), (.mv (.tmp 8)), none⟩, 
                 ⟨(some 23), (.load1 (.tmp 2)), none⟩, 
                 ⟨(some 24), (.nilCheck (.tmp 23)), none⟩, 
                 ⟨(some 25), (.fieldAddr 0 (.tmp 24)), none⟩, 
                 ⟨(some 26), (.load1 (.tmp 25)), none⟩, 
                 ⟨(some 27), (.mv (.tmp 8)), none⟩])
                (.alt
                 (.any [21, 22, 23, 24, 25, 26, 27, 28] [
                  ⟨(some 21), (.load1 (.tmp 5)), none⟩, 
                  ⟨(some 28), (.lookMap (.int .i64) (.agg #[(.slice none 0 0), (.slice none 0 0), (.slice none 0 0)]) false (.tmp 26) (.tmp 27)), none⟩, 
                  ⟨none, (.setMap (.int .i64) (.tmp 21) (.tmp 22) (.tmp 28)), none⟩])
                 (.any [21, 22, 23, 24, 25, 26, 27, 28] [
                  ⟨(some 28), (.lookMap (.int .i64) (.agg #[(.slice none 0 0), (.slice none 0 0), (.slice none 0 0)]) false (.tmp 26) (.tmp 27)), none⟩, 
                  ⟨(some 21), (.load1 (.tmp 5)), none⟩, 
                  ⟨none, (.setMap (.int .i64) (.tmp 21) (.tmp 22) (.tmp 28)), none⟩])))))))))
         (.ops [
          ⟨(some 29), (.bin .add (.tmp 13) (.const (.int .i64 1))), none⟩, 
          ⟨(some 13), (.mv (.tmp 29)), none⟩])))))))
   (.seq (.seq (.any [30, 31, 32, 33, 34, 35, 36, 37, 9] [
      ⟨(some 30), (.load1 (.tmp 2)), none⟩, 
      ⟨(some 31), (.nilCheck (.tmp 30)), none⟩, 
      ⟨(some 32), (.fieldAddr 0 (.tmp 31)), none⟩, 
      ⟨(some 33), (.load1 (.tmp 32)), none⟩])
     (.alt
      (.any [30, 31, 32, 33, 34, 35, 36, 37, 9] [
       ⟨(some 34), (.lenMap (.tmp 33)), none⟩, 
       ⟨(some 35), (.load1 (.tmp 5)), none⟩, 
       ⟨(some 36), (.lenMap (.tmp 35)), none⟩, 
       ⟨(some 37), (.bin .sub (.tmp 34) (.tmp 36)), none⟩, 
       ⟨(some 9), (.mv (.tmp 37)), none⟩])
      (.any [30, 31, 32, 33, 34, 35, 36, 37, 9] [
       ⟨(some 35), (.load1 (.tmp 5)), none⟩, 
       ⟨(some 34), (.lenMap (.tmp 33)), none⟩, 
       ⟨(some 36), (.lenMap (.tmp 35)), none⟩, 
       ⟨(some 37), (.bin .sub (.tmp 34) (.tmp 36)), none⟩, 
       ⟨(some 9), (.mv (.tmp 37)), none⟩])))
    (.seq (.seq (.any [38, 39, 40, 41, 42, 43, 44] [
       ⟨(some 38), (.load1 (.tmp 2)), none⟩, 
       ⟨(some 40), (.load1 (.tmp 5)), none⟩, 
       ⟨(some 41), (.nilCheck (.tmp 38)), none⟩, 
       ⟨(some 42), (.fieldAddr 0 (.tmp 41)), none⟩])
      (.alt
       (.any [38, 39, 40, 41, 42, 43, 44] [
        ⟨(some 39), (.load1 (.tmp 2)), none⟩, 
        ⟨none, (.store1 (.tmp 42) (.tmp 40)), none⟩, 
        ⟨(some 43), (.nilCheck (.tmp 39)), none⟩, 
        ⟨(some 44), (.fieldAddr 1 (.tmp 43)), none⟩, 
        ⟨none, (.store1 (.tmp 44) (.const (.int .i64 1))), none⟩])
       (.any [38, 39, 40, 41, 42, 43, 44] [
        ⟨none, (.store1 (.tmp 42) (.tmp 40)), none⟩, 
        ⟨(some 39), (.load1 (.tmp 2)), none⟩, 
        ⟨(some 43), (.nilCheck (.tmp 39)), none⟩, 
        ⟨(some 44), (.fieldAddr 1 (.tmp 43)), none⟩, 
        ⟨none, (.store1 (.tmp 44) (.const (.int .i64 1))), none⟩])))
     (.seq (.ops [
       ⟨(some 45), (.mv (.tmp 9)), none⟩, 
       ⟨(some 4), (.mv (.tmp 45)), none⟩])
      .ret))))))
theorem c13 {args : Array Value} {h : Heap} {R : Ending → Heap → Prop} (ha : args.size ≤ 46) (hh : aexec Try.prog ac13 (abodyM [(.slot 4)] R) ⟨initFr args.toList, []⟩ h) : HCalls Try.prog 13 args h R :=
  hcalls_of_m Try.func13 rfl rfl (by kernel_rfl) (by kernel_rfl) ha hh
/-- 14: (*credenza/btree.Tree).put -/
def ac14 : ACode :=
 (.seq (.ops [
  ⟨(some 10), (.mv (.const (.slice none 0 0))), none⟩, 
  ⟨(some 11), (.mv (.const (.string ⟨#[]⟩))), none⟩])
 (.seq (.ops [
   ⟨(some 20), (.mv (.tmp 0)), none⟩, 
   ⟨(some 21), (.mv (.tmp 1)), none⟩, 
   ⟨(some 22), (.callF 11 [(.tmp 20), (.tmp 21)]), none⟩, 
   ⟨(some 19), (.mv (.tmp 22)), none⟩, 
   ⟨(some 23), (.extract (.tmp 19) 0), none⟩, 
   ⟨(some 24), (.extract (.tmp 19) 1), none⟩, 
   ⟨(some 12), (.new 41 [(.slice none 0 0), (.slice none 0 0), (.slice none 0 0)]), none⟩, 
   ⟨none, (.storeN 3 (.tmp 12) (.tmp 23)), none⟩, 
   ⟨(some 13), (.mv (.tmp 24)), none⟩])
  (.seq (.seq (.ops [
     ⟨(some 25), (.mv (.tmp 4)), none⟩, 
     ⟨(some 26), (.bin .gtr (.tmp 25) (.const (.int .i64 40))), none⟩])
    (.cond (.tmp 26)
     (.seq (.ops [
       ⟨(some 27), (.mv (.tmp 1)), none⟩, 
       ⟨(some 28), (.buildSlice 3 1 [(.int .i64 0)] [(0, 1, (.tmp 27))]), none⟩, 
       ⟨(some 10), (.mv (.tmp 28)), none⟩, 
       ⟨(some 11), (.mv (.const (.string ⟨#[]⟩))), none⟩])
      .ret)
     .skip))
   (.seq (.seq (.ops [
      ⟨(some 29), (.fieldAddr 2 (.tmp 12)), none⟩, 
      ⟨(some 30), (.load1 (.tmp 29)), none⟩, 
      ⟨(some 31), (.lenSl (.tmp 30)), none⟩, 
      ⟨(some 32), (.bin .eql (.tmp 31) (.const (.int .i64 0))), none⟩])
     (.cond (.tmp 32)
      (.seq (.ops [
        ⟨(some 34), (.fieldAddr 0 (.tmp 12)), none⟩, 
        ⟨(some 35), (.load1 (.tmp 34)), none⟩, 
        ⟨(some 36), (.mv (.tmp 2)), none⟩, 
        ⟨(some 37), (.callF 23 [(.tmp 35), (.tmp 36)]), none⟩, 
        ⟨(some 33), (.mv (.tmp 37)), none⟩, 
        ⟨(some 38), (.extract (.tmp 33) 0), none⟩, 
        ⟨(some 39), (.extract (.tmp 33) 1), none⟩, 
        ⟨(some 14), (.mv (.tmp 38)), none⟩, 
        ⟨(some 15), (.mv (.tmp 39)), none⟩])
       (.seq (.seq (.ops [
          ⟨(some 40), (.mv (.tmp 15)), none⟩])
         (.cond (.tmp 40)
          (.ops [
           ⟨(some 41), (.fieldAddr 1 (.tmp 12)), none⟩, 
           ⟨(some 42), (.load1 (.tmp 41)), none⟩, 
           ⟨(some 43), (.mv (.tmp 14)), none⟩, 
           ⟨(some 44), (.mv (.tmp 3)), none⟩, 
           ⟨(some 45), (.idxSl 1 (.tmp 42) (.tmp 43)), none⟩, 
           ⟨none, (.store1 (.tmp 45) (.tmp 44)), none⟩])
          (.seq (.any [46, 47, 48, 49, 50, 51, 52, 53, 54, 55, 56, 57, 58, 59] [
            ⟨(some 46), (.fieldAddr 0 (.tmp 12)), none⟩, 
            ⟨(some 47), (.load1 (.tmp 46)), none⟩, 
            ⟨(some 48), (.mv (.tmp 14)), none⟩, 
            ⟨(some 49), (.mv (.tmp 2)), none⟩, 
            ⟨(some 52), (.fieldAddr 1 (.tmp 12)), none⟩, 
            ⟨(some 54), (.mv (.tmp 14)), none⟩, 
            ⟨(some 55), (.mv (.tmp 3)), none⟩])
           (.alt
            (.seq (.any [46, 47, 48, 49, 50, 51, 52, 53, 54, 55, 56, 57, 58, 59] [
              ⟨(some 50), (.buildSlice 9 1 [(.string ⟨#[]⟩)] [(0, 1, (.tmp 49))]), none⟩])
             (.alt
              (.any [46, 47, 48, 49, 50, 51, 52, 53, 54, 55, 56, 57, 58, 59] [
               ⟨(some 51), (.callF 24 [(.tmp 47), (.tmp 48), (.tmp 50)]), none⟩, 
               ⟨(some 53), (.load1 (.tmp 52)), none⟩, 
               ⟨(some 58), (.fieldAddr 0 (.tmp 12)), none⟩, 
               ⟨(some 56), (.buildSlice 9 1 [(.string ⟨#[]⟩)] [(0, 1, (.tmp 55))]), none⟩, 
               ⟨(some 57), (.callF 24 [(.tmp 53), (.tmp 54), (.tmp 56)]), none⟩, 
               ⟨none, (.store1 (.tmp 58) (.tmp 51)), none⟩, 
               ⟨(some 59), (.fieldAddr 1 (.tmp 12)), none⟩, 
               ⟨none, (.store1 (.tmp 59) (.tmp 57)), none⟩])
              (.alt
               (.seq (.any [46, 47, 48, 49, 50, 51, 52, 53, 54, 55, 56, 57, 58, 59] [
                 ⟨(some 53), (.load1 (.tmp 52)), none⟩])
                (.alt
                 (.any [46, 47, 48, 49, 50, 51, 52, 53, 54, 55, 56, 57, 58, 59] [
                  ⟨(some 51), (.callF 24 [(.tmp 47), (.tmp 48), (.tmp 50)]), none⟩, 
                  ⟨(some 58), (.fieldAddr 0 (.tmp 12)), none⟩, 
                  ⟨(some 56), (.buildSlice 9 1 [(.string ⟨#[]⟩)] [(0, 1, (.tmp 55))]), none⟩, 
                  ⟨(some 57), (.callF 24 [(.tmp 53), (.tmp 54), (.tmp 56)]), none⟩, 
                  ⟨none, (.store1 (.tmp 58) (.tmp 51)), none⟩, 
                  ⟨(some 59), (.fieldAddr 1 (.tmp 12)), none⟩, 
                  ⟨none, (.store1 (.tmp 59) (.tmp 57)), none⟩])
                 (.any [46, 47, 48, 49, 50, 51, 52, 53, 54, 55, 56, 57, 58, 59] [
                  ⟨(some 56), (.buildSlice 9 1 [(.string ⟨#[]⟩)] [(0, 1, (.tmp 55))]), none⟩, 
                  ⟨(some 51), (.callF 24 [(.tmp 47), (.tmp 48), (.tmp 50)]), none⟩, 
                  ⟨(some 58), (.fieldAddr 0 (.tmp 12)), none⟩, 
                  ⟨(some 57), (.callF 24 [(.tmp 53), (.tmp 54), (.tmp 56)]), none⟩, 
                  ⟨none, (.store1 (.tmp 58) (.tmp 51)), none⟩, 
                  ⟨(some 59), (.fieldAddr 1 (.tmp 12)), none⟩, 
                  ⟨none, (.store1 (.tmp 59) (.tmp 57)), none⟩])))
               (.seq (.any [46, 47, 48, 49, 50, 51, 52, 53, 54, 55, 56, 57, 58, 59] [
                 ⟨(some 56), (.buildSlice 9 1 [(.string ⟨#[]⟩)] [(0, 1, (.tmp 55))]), none⟩])
                (.alt
                 (.any [46, 47, 48, 49, 50, 51, 52, 53, 54, 55, 56, 57, 58, 59] [
                  ⟨(some 51), (.callF 24 [(.tmp 47), (.tmp 48), (.tmp 50)]), none⟩, 
                  ⟨(some 53), (.load1 (.tmp 52)), none⟩, 
                  ⟨(some 58), (.fieldAddr 0 (.tmp 12)), none⟩, 
                  ⟨(some 57), (.callF 24 [(.tmp 53), (.tmp 54), (.tmp 56)]), none⟩, 
                  ⟨none, (.store1 (.tmp 58) (.tmp 51)), none⟩, 
                  ⟨(some 59), (.fieldAddr 1 (.tmp 12)), none⟩, 
                  ⟨none, (.store1 (.tmp 59) (.tmp 57)), none⟩])
                 (.any [46, 47, 48, 49, 50, 51, 52, 53, 54, 55, 56, 57, 58, 59] [
                  ⟨(some 53), (.load1 (.tmp 52)), none⟩, 
                  ⟨(some 51), (.callF 24 [(.tmp 47), (.tmp 48), (.tmp 50)]), none⟩, 
                  ⟨(some 58), (.fieldAddr 0 (.tmp 12)), none⟩, 
                  ⟨(some 57), (.callF 24 [(.tmp 53), (.tmp 54), (.tmp 56)]), none⟩, 
                  ⟨none, (.store1 (.tmp 58) (.tmp 51)), none⟩, 
                  ⟨(some 59), (.fieldAddr 1 (.tmp 12)), none⟩, 
                  ⟨none, (.store1 (.tmp 59) (.tmp 57)), none⟩]))))))
            (.alt
             (.seq (.any [46, 47, 48, 49, 50, 51, 52, 53, 54, 55, 56, 57, 58, 59] [
               ⟨(some 53), (.load1 (.tmp 52)), none⟩])
              (.alt
               (.seq (.any [46, 47, 48, 49, 50, 51, 52, 53, 54, 55, 56, 57, 58, 59] [
                 ⟨(some 50), (.buildSlice 9 1 [(.string ⟨#[]⟩)] [(0, 1, (.tmp 49))]), none⟩])
                (.alt
                 (.any [46, 47, 48, 49, 50, 51, 52, 53, 54, 55, 56, 57, 58, 59] [
                  ⟨(some 51), (.callF 24 [(.tmp 47), (.tmp 48), (.tmp 50)]), none⟩, 
                  ⟨(some 58), (.fieldAddr 0 (.tmp 12)), none⟩, 
                  ⟨(some 56), (.buildSlice 9 1 [(.string ⟨#[]⟩)] [(0, 1, (.tmp 55))]), none⟩, 
                  ⟨(some 57), (.callF 24 [(.tmp 53), (.tmp 54), (.tmp 56)]), none⟩, 
                  ⟨none, (.store1 (.tmp 58) (.tmp 51)), none⟩, 
                  ⟨(some 59), (.fieldAddr 1 (.tmp 12)), none⟩, 
                  ⟨none, (.store1 (.tmp 59) (.tmp 57)), none⟩])
                 (.any [46, 47, 48, 49, 50, 51, 52, 53, 54, 55, 56, 57, 58, 59] [
                  ⟨(some 56), (.buildSlice 9 1 [(.string ⟨#[]⟩)] [(0, 1, (.tmp 55))]), none⟩, 
                  ⟨(some 51), (.callF 24 [(.tmp 47), (.tmp 48), (.tmp 50)]), none⟩, 
                  ⟨(some 58), (.fieldAddr 0 (.tmp 12)), none⟩, 
                  ⟨(some 57), (.callF 24 [(.tmp 53), (.tmp 54), (.tmp 56)]), none⟩, 
                  ⟨none, (.store1 (.tmp 58) (.tmp 51)), none⟩, 
                  ⟨(some 59), (.fieldAddr 1 (.tmp 12)), none⟩, 
                  ⟨none, (.store1 (.tmp 59) (.tmp 57)), none⟩])))
               (.any [46, 47, 48, 49, 50, 51, 52, 53, 54, 55, 56, 57, 58, 59] [
                ⟨(some 56), (.buildSlice 9 1 [(.string ⟨#[]⟩)] [(0, 1, (.tmp 55))]), none⟩, 
                ⟨(some 50), (.buildSlice 9 1 [(.string ⟨#[]⟩)] [(0, 1, (.tmp 49))]), none⟩, 
                ⟨(some 51), (.callF 24 [(.tmp 47), (.tmp 48), (.tmp 50)]), none⟩, 
                ⟨(some 58), (.fieldAddr 0 (.tmp 12)), none⟩, 
                ⟨(some 57), (.callF 24 [(.tmp 53), (.tmp 54), (.tmp 56)]), none⟩, 
                ⟨none, (.store1 (.tmp 58) (.tmp 51)), none⟩, 
                ⟨(some 59), (.fieldAddr 1 (.tmp 12)), none⟩, 
                ⟨none, (.store1 (.tmp 59) (.tmp 57)), none⟩])))
             (.seq (.any [46, 47, 48, 49, 50, 51, 52, 53, 54, 55, 56, 57, 58, 59] [
               ⟨(some 56), (.buildSlice 9 1 [(.string ⟨#[]⟩)] [(0, 1, (.tmp 55))]), none⟩])
              (.alt
               (.seq (.any [46, 47, 48, 49, 50, 51, 52, 53, 54, 55, 56, 57, 58, 59] [
                 ⟨(some 50), (.buildSlice 9 1 [(.string ⟨#[]⟩)] [(0, 1, (.tmp 49))]), none⟩])
                (.alt
                 (.any [46, 47, 48, 49, 50, 51, 52, 53, 54, 55, 56, 57, 58, 59] [
                  ⟨(some 51), (.callF 24 [(.tmp 47), (.tmp 48), (.tmp 50)]), none⟩, 
                  ⟨(some 53), (.load1 (.tmp 52)), none⟩, 
                  ⟨(some 58), (.fieldAddr 0 (.tmp 12)), none⟩, 
                  ⟨(some 57), (.callF 24 [(.tmp 53), (.tmp 54), (.tmp 56)]), none⟩, 
                  ⟨none, (.store1 (.tmp 58) (.tmp 51)), none⟩, 
                  ⟨(some 59), (.fieldAddr 1 (.tmp 12)), none⟩, 
                  ⟨none, (.store1 (.tmp 59) (.tmp 57)), none⟩])
                 (.any [46, 47, 48, 49, 50, 51, 52, 53, 54, 55, 56, 57, 58, 59] [
                  ⟨(some 53), (.load1 (.tmp 52)), none⟩, 
                  ⟨(some 51), (.callF 24 [(.tmp 47), (.tmp 48), (.tmp 50)]), none⟩, 
                  ⟨(some 58), (.fieldAddr 0 (.tmp 12)), none⟩, 
                  ⟨(some 57), (.callF 24 [(.tmp 53), (.tmp 54), (.tmp 56)]), none⟩, 
                  ⟨none, (.store1 (.tmp 58) (.tmp 51)), none⟩, 
                  ⟨(some 59), (.fieldAddr 1 (.tmp 12)), none⟩, 
                  ⟨none, (.store1 (.tmp 59) (.tmp 57)), none⟩])))
               (.any [46, 47, 48, 49, 50, 51, 52, 53, 54, 55, 56, 57, 58, 59] [
                ⟨(some 53), (.load1 (.tmp 52)), none⟩, 
                ⟨(some 50), (.buildSlice 9 1 [(.string ⟨#[]⟩)] [(0, 1, (.tmp 49))]), none⟩, 
                ⟨(some 51), (.callF 24 [(.tmp 47), (.tmp 48), (.tmp 50)]), none⟩, 
                ⟨(some 58), (.fieldAddr 0 (.tmp 12)), none⟩, 
                ⟨(some 57), (.callF 24 [(.tmp 53), (.tmp 54), (.tmp 56)]), none⟩, 
                ⟨none, (.store1 (.tmp 58) (.tmp 51)), none⟩, 
                ⟨(some 59), (.fieldAddr 1 (.tmp 12)), none⟩, 
                ⟨none, (.store1 (.tmp 59) (.tmp 57)), none⟩]))))))))
        (.seq (.ops [
          ⟨(some 60), (.mv (.tmp 0)), none⟩, 
          ⟨(some 61), (.loadN 3 (.tmp 12)), none⟩, 
          ⟨(some 62), (.callF 25 [(.tmp 60), (.tmp 61)]), none⟩, 
          ⟨(some 63), (.extract (.tmp 62) 0), none⟩, 
          ⟨(some 64), (.extract (.tmp 62) 1), none⟩, 
          ⟨(some 10), (.mv (.tmp 63)), none⟩, 
          ⟨(some 11), (.mv (.tmp 64)), none⟩])
         .ret)))
      .skip))
    (.seq (.ops [
      ⟨(some 65), (.loadN 3 (.tmp 12)), none⟩, 
      ⟨(some 66), (.mv (.tmp 2)), none⟩, 
      ⟨(some 67), (.callF 26 [(.tmp 65), (.tmp 66)]), none⟩, 
      ⟨(some 16), (.mv (.tmp 67)), none⟩])
     (.seq (.ops [
       ⟨(some 69), (.mv (.tmp 0)), none⟩, 
       ⟨(some 70), (.fieldAddr 2 (.tmp 12)), none⟩, 
       ⟨(some 71), (.load1 (.tmp 70)), none⟩, 
       ⟨(some 72), (.mv (.tmp 16)), none⟩, 
       ⟨(some 73), (.idxSl 1 (.tmp 71) (.tmp 72)), none⟩, 
       ⟨(some 74), (.load1 (.tmp 73)), none⟩, 
       ⟨(some 75), (.mv (.tmp 2)), none⟩, 
       ⟨(some 76), (.mv (.tmp 3)), none⟩, 
       ⟨(some 77), (.mv (.tmp 4)), none⟩, 
       ⟨(some 78), (.bin .add (.tmp 77) (.const (.int .i64 1))), none⟩, 
       ⟨(some 79), (.callF 14 [(.tmp 69), (.tmp 74), (.tmp 75), (.tmp 76), (.tmp 78)]), none⟩, 
       ⟨(some 68), (.mv (.tmp 79)), none⟩, 
       ⟨(some 80), (.extract (.tmp 68) 0), none⟩, 
       ⟨(some 81), (.extract (.tmp 68) 1), none⟩, 
       ⟨(some 17), (.mv (.tmp 80)), none⟩, 
       ⟨(some 18), (.mv (.tmp 81)), none⟩])
      (.seq (.ops [
        ⟨(some 82), (.fieldAddr 2 (.tmp 12)), none⟩, 
        ⟨(some 83), (.load1 (.tmp 82)), none⟩, 
        ⟨(some 84), (.mv (.tmp 16)), none⟩, 
        ⟨(some 85), (.mv (.tmp 16)), none⟩, 
        ⟨(some 86), (.bin .add (.tmp 85) (.const (.int .i64 1))), none⟩, 
        ⟨(some 87), (.mv (.tmp 17)), none⟩, 
        ⟨(some 88), (.callF 27 [(.tmp 83), (.tmp 84), (.tmp 86), (.tmp 87)]), none⟩, 
        ⟨(some 89), (.fieldAddr 2 (.tmp 12)), none⟩, 
        ⟨none, (.store1 (.tmp 89) (.tmp 88)), none⟩])
       (.seq (.seq (.ops [
          ⟨(some 90), (.mv (.tmp 17)), none⟩, 
          ⟨(some 91), (.lenSl (.tmp 90)), none⟩, 
          ⟨(some 92), (.bin .gtr (.tmp 91) (.const (.int .i64 1))), none⟩])
         (.cond (.tmp 92)
          (.ops [
           ⟨(some 93), (.fieldAddr 0 (.tmp 12)), none⟩, 
           ⟨(some 94), (.load1 (.tmp 93)), none⟩, 
           ⟨(some 95), (.mv (.tmp 16)), none⟩, 
           ⟨(some 96), (.mv (.tmp 18)), none⟩, 
           ⟨(some 97), (.buildSlice 9 1 [(.string ⟨#[]⟩)] [(0, 1, (.tmp 96))]), none⟩, 
           ⟨(some 98), (.callF 24 [(.tmp 94), (.tmp 95), (.tmp 97)]), none⟩, 
           ⟨(some 99), (.fieldAddr 0 (.tmp 12)), none⟩, 
           ⟨none, (.store1 (.tmp 99) (.tmp 98)), none⟩])
          .skip))
        (.seq (.ops [
          ⟨(some 100), (.mv (.tmp 0)), none⟩, 
          ⟨(some 101), (.loadN 3 (.tmp 12)), none⟩, 
          ⟨(some 102), (.callF 25 [(.tmp 100), (.tmp 101)]), none⟩, 
          ⟨(some 103), (.extract (.tmp 102) 0), none⟩, 
          ⟨(some 104), (.extract (.tmp 102) 1), none⟩, 
          ⟨(some 10), (.mv (.tmp 103)), none⟩, 
          ⟨(some 11), (.mv (.tmp 104)), none⟩])
         .ret)))))))))
theorem c14 {args : Array Value} {h : Heap} {R : Ending → Heap → Prop} (ha : args.size ≤ 105) (hh : aexec Try.prog ac14 (abody [(.slot 10), (.slot 11)] R) ⟨initFr args.toList, []⟩ h) : HCalls Try.prog 14 args h R :=
  hcalls_of Try.func14 rfl rfl (by kernel_rfl) (by kernel_rfl) ha hh
/-- 15: (*credenza/btree.Tree).make -/
def ac15 : ACode :=
 (.seq (.ops [
  ⟨(some 3), (.box 41 (.tmp 1)), none⟩, 
  ⟨(some 4), (.mv (.const (.int .i64 0))), none⟩])
 (.seq (.block 0
   (.loop
    (.seq (.seq (.ops [
       ⟨(some 5), (.mv (.tmp 0)), none⟩, 
       ⟨(some 6), (.mv (.tmp 0)), none⟩, 
       ⟨(some 7), (.nilCheck (.tmp 6)), none⟩, 
       ⟨(some 8), (.fieldAddr 1 (.tmp 7)), none⟩, 
       ⟨(some 9), (.load1 (.tmp 8)), none⟩, 
       ⟨(some 10), (.callF 28 [(.tmp 5), (.tmp 9)]), none⟩])
      (.cond (.tmp 10)
       .skip
       (.exit 0)))
     (.block 1
      (.ops [
       ⟨(some 11), (.mv (.tmp 0)), none⟩, 
       ⟨(some 12), (.nilCheck (.tmp 11)), none⟩, 
       ⟨(some 13), (.fieldAddr 1 (.tmp 12)), none⟩, 
       ⟨(some 14), (.load1 (.tmp 13)), none⟩, 
       ⟨(some 15), (.bin .add (.tmp 14) (.const (.int .i64 1))), none⟩, 
       ⟨(some 16), (.nilCheck (.tmp 11)), none⟩, 
       ⟨(some 17), (.fieldAddr 1 (.tmp 16)), none⟩, 
       ⟨none, (.store1 (.tmp 17) (.tmp 15)), none⟩])))))
  (.seq (.any [18, 19, 20, 21, 22, 23, 24, 25, 26] [
    ⟨(some 18), (.mv (.tmp 0)), none⟩, 
    ⟨(some 19), (.nilCheck (.tmp 18)), none⟩, 
    ⟨(some 20), (.fieldAddr 0 (.tmp 19)), none⟩, 
    ⟨(some 21), (.load1 (.tmp 20)), none⟩, 
    ⟨(some 22), (.mv (.tmp 0)), none⟩, 
    ⟨(some 23), (.nilCheck (.tmp 22)), none⟩, 
    ⟨(some 24), (.fieldAddr 1 (.tmp 23)), none⟩, 
    ⟨(some 25), (.load1 (.tmp 24)), none⟩, 
    ⟨(some 26), (.loadN 3 (.tmp 3)), none⟩, 
    ⟨none, (.setMap (.int .i64) (.tmp 21) (.tmp 25) (.tmp 26)), none⟩])
   (.seq (.ops [
     ⟨(some 27), (.mv (.tmp 0)), none⟩, 
     ⟨(some 28), (.nilCheck (.tmp 27)), none⟩, 
     ⟨(some 29), (.fieldAddr 1 (.tmp 28)), none⟩, 
     ⟨(some 30), (.load1 (.tmp 29)), none⟩, 
     ⟨(some 4), (.mv (.tmp 30)), none⟩])
    .ret))))
theorem c15 {args : Array Value} {h : Heap} {R : Ending → Heap → Prop} (ha : args.size ≤ 31) (hh : aexec Try.prog ac15 (abody [(.slot 4)] R) ⟨initFr args.toList, []⟩ h) : HCalls Try.prog 15 args h R :=
  hcalls_of Try.func15 rfl rfl (by kernel_rfl) (by kernel_rfl) ha hh
/-- 16: (*credenza/btree.Tree).Scan$1 -/
def ac16 : ACode :=
 (.seq (.ops [
  ⟨(some 6), (.box 34 (.tmp 0)), none⟩, 
  ⟨(some 7), (.mv (.const (.bool false))), none⟩])
 (.seq (.seq (.ops [
    ⟨(some 8), (.fieldAddr 0 (.tmp 6)), none⟩, 
    ⟨(some 9), (.load1 (.tmp 8)), none⟩, 
    ⟨(some 10), (.load1 (.tmp 1)), none⟩, 
    ⟨(some 11), (.bin .lss (.tmp 9) (.tmp 10)), none⟩])
   (.cond (.tmp 11)
    (.seq (.ops [
      ⟨(some 7), (.mv (.const (.bool false))), none⟩])
     .ret)
    .skip))
  (.seq (.seq (.ops [
     ⟨(some 12), (.load1 (.tmp 2)), none⟩, 
     ⟨(some 13), (.mv (.tmp 12)), none⟩, 
     ⟨(some 14), (.fieldAddr 0 (.tmp 6)), (some (13, false))⟩, 
     ⟨(some 15), (.load1 (.tmp 14)), (some (13, false))⟩, 
     ⟨(some 16), (.load1 (.tmp 3)), (some (13, false))⟩, 
     ⟨(some 17), (.bin .lss (.tmp 15) (.tmp 16)), (some (13, false))⟩, 
     ⟨(some 18), (.pick (.tmp 13) (.const (.bool true)) (.tmp 17)), none⟩])
    (.cond (.tmp 18)
     (.ops [
      ⟨(some 19), (.load1 (.tmp 4)), none⟩, 
      ⟨(some 20), (.loadN 2 (.tmp 6)), none⟩, 
      ⟨(some 21), (.buildSlice 34 1 [(.string ⟨#[]⟩), (.string ⟨#[]⟩)] [(0, 2, (.tmp 20))]), none⟩, 
      ⟨(some 22), (.append 34 2 32 [(.string ⟨#[]⟩), (.string ⟨#[]⟩)] (.tmp 19) (.tmp 21)), none⟩, 
      ⟨none, (.store1 (.tmp 4) (.tmp 22)), none⟩])
     .skip))
   (.seq (.ops [
     ⟨(some 23), (.load1 (.tmp 4)), none⟩, 
     ⟨(some 24), (.lenSl (.tmp 23)), none⟩, 
     ⟨(some 25), (.load1 (.tmp 5)), none⟩, 
     ⟨(some 26), (.bin .lss (.tmp 24) (.tmp 25)), none⟩, 
     ⟨(some 7), (.mv (.tmp 26)), none⟩])
    .ret))))
theorem c16 {args : Array Value} {h : Heap} {R : Ending → Heap → Prop} (ha : args.size ≤ 27) (hh : aexec Try.prog ac16 (abody [(.slot 7)] R) ⟨initFr args.toList, []⟩ h) : HCalls Try.prog 16 args h R :=
  hcalls_of Try.func16 rfl rfl (by kernel_rfl) (by kernel_rfl) ha hh
/-- 17: (*credenza/btree.walker).falling -/
def ac17 : ACode :=
 (.seq (.ops [
  ⟨(some 2), (.box 53 (.tmp 0)), none⟩, 
  ⟨(some 4), (.new 4 [(.bool false)]), none⟩])
 (.seq (.seq (.ops [
    ⟨(some 10), (.load1 (.tmp 2)), none⟩, 
    ⟨(some 11), (.nilCheck (.tmp 10)), none⟩, 
    ⟨(some 12), (.fieldAddr 1 (.tmp 11)), none⟩, 
    ⟨(some 13), (.load1 (.tmp 12)), none⟩, 
    ⟨(some 14), (.bin .eql (.tmp 13) (.const (.int .i64 0))), none⟩])
   (.cond (.tmp 14)
    (.seq (.ops [
      ⟨none, (.store1 (.tmp 4) (.const (.bool false))), none⟩])
     .ret)
    .skip))
  (.seq (.ops [
    ⟨(some 15), (.load1 (.tmp 2)), none⟩, 
    ⟨(some 16), (.nilCheck (.tmp 15)), none⟩, 
    ⟨(some 17), (.fieldAddr 1 (.tmp 16)), none⟩, 
    ⟨(some 18), (.load1 (.tmp 17)), none⟩, 
    ⟨(some 19), (.bin .sub (.tmp 18) (.const (.int .i64 1))), none⟩, 
    ⟨(some 20), (.nilCheck (.tmp 15)), none⟩, 
    ⟨(some 21), (.fieldAddr 1 (.tmp 20)), none⟩, 
    ⟨none, (.store1 (.tmp 21) (.tmp 19)), none⟩])
   (.seq (.ops [
     ⟨(some 22), (.load1 (.tmp 2)), none⟩, 
     ⟨(some 23), (.nilCheck (.tmp 22)), none⟩, 
     ⟨(some 24), (.fieldAddr 0 (.tmp 23)), none⟩, 
     ⟨(some 25), (.load1 (.tmp 24)), none⟩, 
     ⟨(some 26), (.nilCheck (.tmp 25)), none⟩, 
     ⟨(some 27), (.fieldAddr 0 (.tmp 26)), none⟩, 
     ⟨(some 28), (.load1 (.tmp 27)), none⟩, 
     ⟨(some 29), (.mv (.tmp 1)), none⟩, 
     ⟨(some 30), (.lookMap (.int .i64) (.agg #[(.slice none 0 0), (.slice none 0 0), (.slice none 0 0)]) false (.tmp 28) (.tmp 29)), none⟩, 
     ⟨(some 5), (.new 41 [(.slice none 0 0), (.slice none 0 0), (.slice none 0 0)]), none⟩, 
     ⟨none, (.storeN 3 (.tmp 5) (.tmp 30)), none⟩])
    (.seq (.seq (.ops [
       ⟨(some 31), (.fieldAddr 2 (.tmp 5)), none⟩, 
       ⟨(some 32), (.load1 (.tmp 31)), none⟩, 
       ⟨(some 33), (.callF 29 [(.tmp 32)]), none⟩])
      (.block 0
       (.range (.tmp 33) [34, 35]
        (.ops [
         ⟨(some 7), (.mv (.tmp 35)), none⟩])
        (.block 1
         (.seq (.ops [
           ⟨(some 36), (.load1 (.tmp 2)), none⟩, 
           ⟨(some 37), (.mv (.tmp 7)), none⟩, 
           ⟨(some 38), (.callF 17 [(.tmp 36), (.tmp 37)]), none⟩, 
           ⟨(some 39), (.un .not (.tmp 38)), none⟩])
          (.cond (.tmp 39)
           (.seq (.ops [
             ⟨none, (.store1 (.tmp 4) (.const (.bool false))), none⟩])
            .ret)
           .skip))))))
     (.seq (.seq (.ops [
        ⟨(some 40), (.fieldAddr 1 (.tmp 5)), none⟩, 
        ⟨(some 41), (.load1 (.tmp 40)), none⟩, 
        ⟨(some 42), (.callF 30 [(.tmp 41)]), none⟩])
       (.block 2
        (.range (.tmp 42) [43, 44]
         (.seq (.ops [
           ⟨(some 8), (.mv (.tmp 43)), none⟩])
          (.ops [
           ⟨(some 9), (.mv (.tmp 44)), none⟩]))
         (.block 3
          (.seq (.any [45, 46, 47, 48, 49, 50, 51, 52, 53, 54, 55, 56, 57] [
            ⟨(some 45), (.load1 (.tmp 2)), none⟩, 
            ⟨(some 46), (.nilCheck (.tmp 45)), none⟩, 
            ⟨(some 47), (.fieldAddr 2 (.tmp 46)), none⟩, 
            ⟨(some 48), (.load1 (.tmp 47)), none⟩, 
            ⟨(some 49), (.fieldAddr 0 (.tmp 5)), none⟩, 
            ⟨(some 50), (.load1 (.tmp 49)), none⟩, 
            ⟨(some 51), (.mv (.tmp 8)), none⟩, 
            ⟨(some 52), (.idxSl 1 (.tmp 50) (.tmp 51)), none⟩, 
            ⟨(some 53), (.load1 (.tmp 52)), none⟩, 
            ⟨(some 54), (.mv (.tmp 9)), none⟩, 
            ⟨(some 55), (.build [(.string ⟨#[]⟩), (.string ⟨#[]⟩)] [(0, 1, (.tmp 53)), (1, 1, (.tmp 54))]), none⟩, 
            ⟨(some 56), (.callV (.tmp 48) [(.tmp 55)]), none⟩, 
            ⟨(some 57), (.un .not (.tmp 56)), none⟩])
           (.cond (.tmp 57)
            (.seq (.ops [
              ⟨none, (.store1 (.tmp 4) (.const (.bool false))), none⟩])
             .ret)
            .skip))))))
      (.seq (.ops [
        ⟨none, (.store1 (.tmp 4) (.const (.bool true))), none⟩])
       .ret)))))))
theorem c17 {args : Array Value} {h : Heap} {R : Ending → Heap → Prop} (ha : args.size ≤ 58) (hh : aexec Try.prog ac17 (abodyM [(.cell1 4)] R) ⟨initFr args.toList, []⟩ h) : HCalls Try.prog 17 args h R :=
  hcalls_of_m Try.func17 rfl rfl (by kernel_rfl) (by kernel_rfl) ha hh
/-- 18: (*credenza/btree.Tree).Scan$2 -/
def ac18 : ACode :=
 (.seq (.ops [
  ⟨(some 5), (.box 34 (.tmp 0)), none⟩, 
  ⟨(some 6), (.mv (.const (.bool false))), none⟩])
 (.seq (.seq (.ops [
    ⟨(some 7), (.load1 (.tmp 1)), none⟩, 
    ⟨(some 8), (.un .not (.tmp 7)), none⟩, 
    ⟨(some 9), (.mv (.tmp 8)), none⟩, 
    ⟨(some 10), (.fieldAddr 0 (.tmp 5)), (some (9, true))⟩, 
    ⟨(some 11), (.load1 (.tmp 10)), (some (9, true))⟩, 
    ⟨(some 12), (.load1 (.tmp 2)), (some (9, true))⟩, 
    ⟨(some 13), (.bin .geq (.tmp 11) (.tmp 12)), (some (9, true))⟩, 
    ⟨(some 14), (.pick (.tmp 9) (.tmp 13) (.const (.bool false))), none⟩])
   (.cond (.tmp 14)
    (.seq (.ops [
      ⟨(some 6), (.mv (.const (.bool false))), none⟩])
     .ret)
    .skip))
  (.seq (.ops [
    ⟨(some 15), (.load1 (.tmp 3)), none⟩, 
    ⟨(some 16), (.loadN 2 (.tmp 5)), none⟩, 
    ⟨(some 17), (.buildSlice 34 1 [(.string ⟨#[]⟩), (.string ⟨#[]⟩)] [(0, 2, (.tmp 16))]), none⟩, 
    ⟨(some 18), (.append 34 2 32 [(.string ⟨#[]⟩), (.string ⟨#[]⟩)] (.tmp 15) (.tmp 17)), none⟩, 
    ⟨none, (.store1 (.tmp 3) (.tmp 18)), none⟩])
   (.seq (.ops [
     ⟨(some 19), (.load1 (.tmp 3)), none⟩, 
     ⟨(some 20), (.lenSl (.tmp 19)), none⟩, 
     ⟨(some 21), (.load1 (.tmp 4)), none⟩, 
     ⟨(some 22), (.bin .lss (.tmp 20) (.tmp 21)), none⟩, 
     ⟨(some 6), (.mv (.tmp 22)), none⟩])
    .ret))))
theorem c18 {args : Array Value} {h : Heap} {R : Ending → Heap → Prop} (ha : args.size ≤ 23) (hh : aexec Try.prog ac18 (abody [(.slot 6)] R) ⟨initFr args.toList, []⟩ h) : HCalls Try.prog 18 args h R :=
  hcalls_of Try.func18 rfl rfl (by kernel_rfl) (by kernel_rfl) ha hh
/-- 19: (*credenza/btree.walker).rising -/
def ac19 : ACode :=
 (.seq (.ops [
  ⟨(some 6), (.mv (.const (.bool false))), none⟩])
 (.seq (.seq (.ops [
    ⟨(some 12), (.mv (.tmp 0)), none⟩, 
    ⟨(some 13), (.nilCheck (.tmp 12)), none⟩, 
    ⟨(some 14), (.fieldAddr 1 (.tmp 13)), none⟩, 
    ⟨(some 15), (.load1 (.tmp 14)), none⟩, 
    ⟨(some 16), (.bin .eql (.tmp 15) (.const (.int .i64 0))), none⟩])
   (.cond (.tmp 16)
    (.seq (.ops [
      ⟨(some 6), (.mv (.const (.bool false))), none⟩])
     .ret)
    .skip))
  (.seq (.ops [
    ⟨(some 17), (.mv (.tmp 0)), none⟩, 
    ⟨(some 18), (.nilCheck (.tmp 17)), none⟩, 
    ⟨(some 19), (.fieldAddr 1 (.tmp 18)), none⟩, 
    ⟨(some 20), (.load1 (.tmp 19)), none⟩, 
    ⟨(some 21), (.bin .sub (.tmp 20) (.const (.int .i64 1))), none⟩, 
    ⟨(some 22), (.nilCheck (.tmp 17)), none⟩, 
    ⟨(some 23), (.fieldAddr 1 (.tmp 22)), none⟩, 
    ⟨none, (.store1 (.tmp 23) (.tmp 21)), none⟩])
   (.seq (.ops [
     ⟨(some 24), (.mv (.tmp 0)), none⟩, 
     ⟨(some 25), (.nilCheck (.tmp 24)), none⟩, 
     ⟨(some 26), (.fieldAddr 0 (.tmp 25)), none⟩, 
     ⟨(some 27), (.load1 (.tmp 26)), none⟩, 
     ⟨(some 28), (.nilCheck (.tmp 27)), none⟩, 
     ⟨(some 29), (.fieldAddr 0 (.tmp 28)), none⟩, 
     ⟨(some 30), (.load1 (.tmp 29)), none⟩, 
     ⟨(some 31), (.mv (.tmp 1)), none⟩, 
     ⟨(some 32), (.lookMap (.int .i64) (.agg #[(.slice none 0 0), (.slice none 0 0), (.slice none 0 0)]) false (.tmp 30) (.tmp 31)), none⟩, 
     ⟨(some 7), (.new 41 [(.slice none 0 0), (.slice none 0 0), (.slice none 0 0)]), none⟩, 
     ⟨none, (.storeN 3 (.tmp 7) (.tmp 32)), none⟩])
    (.seq (.seq (.seq (.any [33, 34, 35, 36, 37, 38, 39, 40, 41, 42, 43, 44] [
        ⟨(some 33), (.fieldAddr 2 (.tmp 7)), none⟩, 
        ⟨(some 35), (.loadN 3 (.tmp 7)), none⟩, 
        ⟨(some 36), (.mv (.tmp 2)), none⟩, 
        ⟨(some 38), (.fieldAddr 2 (.tmp 7)), none⟩, 
        ⟨(some 44), (.mv (.const (.int .i64 0))), none⟩])
       (.alt
        (.seq (.any [33, 34, 35, 36, 37, 38, 39, 40, 41, 42, 43, 44] [
          ⟨(some 34), (.load1 (.tmp 33)), none⟩])
         (.alt
          (.any [33, 34, 35, 36, 37, 38, 39, 40, 41, 42, 43, 44] [
           ⟨(some 37), (.callF 26 [(.tmp 35), (.tmp 36)]), none⟩, 
           ⟨(some 39), (.load1 (.tmp 38)), none⟩, 
           ⟨(some 40), (.lenSl (.tmp 39)), none⟩, 
           ⟨(some 41), (.minmax false (.tmp 37) [(.tmp 40)]), none⟩, 
           ⟨(some 42), (.sliceSl 1 (.tmp 34) (some (.tmp 41)) none none), none⟩, 
           ⟨(some 43), (.lenSl (.tmp 42)), none⟩])
          (.any [33, 34, 35, 36, 37, 38, 39, 40, 41, 42, 43, 44] [
           ⟨(some 39), (.load1 (.tmp 38)), none⟩, 
           ⟨(some 40), (.lenSl (.tmp 39)), none⟩, 
           ⟨(some 37), (.callF 26 [(.tmp 35), (.tmp 36)]), none⟩, 
           ⟨(some 41), (.minmax false (.tmp 37) [(.tmp 40)]), none⟩, 
           ⟨(some 42), (.sliceSl 1 (.tmp 34) (some (.tmp 41)) none none), none⟩, 
           ⟨(some 43), (.lenSl (.tmp 42)), none⟩])))
        (.alt
         (.any [33, 34, 35, 36, 37, 38, 39, 40, 41, 42, 43, 44] [
          ⟨(some 37), (.callF 26 [(.tmp 35), (.tmp 36)]), none⟩, 
          ⟨(some 34), (.load1 (.tmp 33)), none⟩, 
          ⟨(some 39), (.load1 (.tmp 38)), none⟩, 
          ⟨(some 40), (.lenSl (.tmp 39)), none⟩, 
          ⟨(some 41), (.minmax false (.tmp 37) [(.tmp 40)]), none⟩, 
          ⟨(some 42), (.sliceSl 1 (.tmp 34) (some (.tmp 41)) none none), none⟩, 
          ⟨(some 43), (.lenSl (.tmp 42)), none⟩])
         (.seq (.any [33, 34, 35, 36, 37, 38, 39, 40, 41, 42, 43, 44] [
           ⟨(some 39), (.load1 (.tmp 38)), none⟩, 
           ⟨(some 40), (.lenSl (.tmp 39)), none⟩])
          (.alt
           (.any [33, 34, 35, 36, 37, 38, 39, 40, 41, 42, 43, 44] [
            ⟨(some 34), (.load1 (.tmp 33)), none⟩, 
            ⟨(some 37), (.callF 26 [(.tmp 35), (.tmp 36)]), none⟩, 
            ⟨(some 41), (.minmax false (.tmp 37) [(.tmp 40)]), none⟩, 
            ⟨(some 42), (.sliceSl 1 (.tmp 34) (some (.tmp 41)) none none), none⟩, 
            ⟨(some 43), (.lenSl (.tmp 42)), none⟩])
           (.any [33, 34, 35, 36, 37, 38, 39, 40, 41, 42, 43, 44] [
            ⟨(some 37), (.callF 26 [(.tmp 35), (.tmp 36)]), none⟩, 
            ⟨(some 34), (.load1 (.tmp 33)), none⟩, 
            ⟨(some 41), (.minmax false (.tmp 37) [(.tmp 40)]), none⟩, 
            ⟨(some 42), (.sliceSl 1 (.tmp 34) (some (.tmp 41)) none none), none⟩, 
            ⟨(some 43), (.lenSl (.tmp 42)), none⟩]))))))
      (.block 0
       (.loop
        (.seq (.ops [
          ⟨(some 45), (.bin .lss (.tmp 44) (.tmp 43)), none⟩])
         (.seq (.cond (.tmp 45)
           .skip
           (.exit 0))
          (.seq (.block 1
            (.seq (.ops [
              ⟨(some 46), (.mv (.tmp 44)), none⟩, 
              ⟨(some 47), (.idxSl 1 (.tmp 42) (.tmp 44)), none⟩, 
              ⟨(some 48), (.load1 (.tmp 47)), none⟩, 
              ⟨(some 8), (.mv (.tmp 46)), none⟩, 
              ⟨(some 9), (.mv (.tmp 48)), none⟩])
             (.seq (.seq (.ops [
                ⟨(some 49), (.mv (.tmp 8)), none⟩, 
                ⟨(some 50), (.bin .gtr (.tmp 49) (.const (.int .i64 0))), none⟩])
               (.cond (.tmp 50)
                (.ops [
                 ⟨(some 2), (.mv (.const (.string ⟨#[]⟩))), none⟩])
                .skip))
              (.seq (.ops [
                ⟨(some 51), (.mv (.tmp 0)), none⟩, 
                ⟨(some 52), (.mv (.tmp 9)), none⟩, 
                ⟨(some 53), (.mv (.tmp 2)), none⟩, 
                ⟨(some 54), (.callF 19 [(.tmp 51), (.tmp 52), (.tmp 53)]), none⟩, 
                ⟨(some 55), (.un .not (.tmp 54)), none⟩])
               (.cond (.tmp 55)
                (.seq (.ops [
                  ⟨(some 6), (.mv (.const (.bool false))), none⟩])
                 .ret)
                .skip)))))
           (.ops [
            ⟨(some 56), (.bin .add (.tmp 44) (.const (.int .i64 1))), none⟩, 
            ⟨(some 44), (.mv (.tmp 56)), none⟩])))))))
     (.seq (.seq (.ops [
        ⟨(some 57), (.fieldAddr 1 (.tmp 7)), none⟩, 
        ⟨(some 58), (.load1 (.tmp 57)), none⟩, 
        ⟨(some 59), (.lenSl (.tmp 58)), none⟩, 
        ⟨(some 60), (.mv (.const (.int .i64 0))), none⟩])
       (.block 2
        (.loop
         (.seq (.ops [
           ⟨(some 61), (.bin .lss (.tmp 60) (.tmp 59)), none⟩])
          (.seq (.cond (.tmp 61)
            .skip
            (.exit 2))
           (.seq (.block 3
             (.seq (.ops [
               ⟨(some 62), (.mv (.tmp 60)), none⟩, 
               ⟨(some 63), (.idxSl 1 (.tmp 58) (.tmp 60)), none⟩, 
               ⟨(some 64), (.load1 (.tmp 63)), none⟩, 
               ⟨(some 10), (.mv (.tmp 62)), none⟩, 
               ⟨(some 11), (.mv (.tmp 64)), none⟩])
              (.seq (.any [65, 66, 67, 68, 69, 70, 71, 72, 73, 74, 75, 76, 77, 78, 79, 80, 81, 82, 83, 84, 85, 86] [
                ⟨(some 65), (.fieldAddr 0 (.tmp 7)), none⟩, 
                ⟨(some 66), (.load1 (.tmp 65)), none⟩, 
                ⟨(some 67), (.mv (.tmp 10)), none⟩, 
                ⟨(some 68), (.idxSl 1 (.tmp 66) (.tmp 67)), none⟩, 
                ⟨(some 69), (.load1 (.tmp 68)), none⟩, 
                ⟨(some 70), (.mv (.tmp 2)), none⟩, 
                ⟨(some 71), (.bin .geq (.tmp 69) (.tmp 70)), none⟩, 
                ⟨(some 72), (.mv (.tmp 71)), none⟩, 
                ⟨(some 73), (.mv (.tmp 0)), (some (72, true))⟩, 
                ⟨(some 74), (.nilCheck (.tmp 73)), (some (72, true))⟩, 
                ⟨(some 75), (.fieldAddr 2 (.tmp 74)), (some (72, true))⟩, 
                ⟨(some 76), (.load1 (.tmp 75)), (some (72, true))⟩, 
                ⟨(some 77), (.fieldAddr 0 (.tmp 7)), (some (72, true))⟩, 
                ⟨(some 78), (.load1 (.tmp 77)), (some (72, true))⟩, 
                ⟨(some 79), (.mv (.tmp 10)), (some (72, true))⟩, 
                ⟨(some 80), (.idxSl 1 (.tmp 78) (.tmp 79)), (some (72, true))⟩, 
                ⟨(some 81), (.load1 (.tmp 80)), (some (72, true))⟩, 
                ⟨(some 82), (.mv (.tmp 11)), (some (72, true))⟩, 
                ⟨(some 83), (.build [(.string ⟨#[]⟩), (.string ⟨#[]⟩)] [(0, 1, (.tmp 81)), (1, 1, (.tmp 82))]), (some (72, true))⟩, 
                ⟨(some 84), (.callV (.tmp 76) [(.tmp 83)]), (some (72, true))⟩, 
                ⟨(some 85), (.un .not (.tmp 84)), (some (72, true))⟩, 
                ⟨(some 86), (.pick (.tmp 72) (.tmp 85) (.const (.bool false))), none⟩])
               (.cond (.tmp 86)
                (.seq (.ops [
                  ⟨(some 6), (.mv (.const (.bool false))), none⟩])
                 .ret)
                .skip))))
            (.ops [
             ⟨(some 87), (.bin .add (.tmp 60) (.const (.int .i64 1))), none⟩, 
             ⟨(some 60), (.mv (.tmp 87)), none⟩])))))))
      (.seq (.ops [
        ⟨(some 6), (.mv (.const (.bool true))), none⟩])
       .ret)))))))
theorem c19 {args : Array Value} {h : Heap} {R : Ending → Heap → Prop} (ha : args.size ≤ 88) (hh : aexec Try.prog ac19 (abody [(.slot 6)] R) ⟨initFr args.toList, []⟩ h) : HCalls Try.prog 19 args h R :=
  hcalls_of Try.func19 rfl rfl (by kernel_rfl) (by kernel_rfl) ha hh
/-- 20: credenza/btree.own -/
def ac20 : ACode :=
 (.seq (.ops [
  ⟨(some 1), (.box 41 (.tmp 0)), none⟩, 
  ⟨(some 2), (.new 41 [(.slice none 0 0), (.slice none 0 0), (.slice none 0 0)]), none⟩])
 (.seq (.seq (.any [3, 4, 5, 6, 7, 8, 9, 10, 11, 12] [
    ⟨(some 3), (.fieldAddr 0 (.tmp 1)), none⟩, 
    ⟨(some 4), (.load1 (.tmp 3)), none⟩, 
    ⟨(some 6), (.fieldAddr 1 (.tmp 1)), none⟩, 
    ⟨(some 9), (.fieldAddr 2 (.tmp 1)), none⟩])
   (.alt
    (.seq (.any [3, 4, 5, 6, 7, 8, 9, 10, 11, 12] [
      ⟨(some 5), (.callF 31 [(.tmp 4)]), none⟩, 
      ⟨(some 7), (.load1 (.tmp 6)), none⟩])
     (.alt
      (.any [3, 4, 5, 6, 7, 8, 9, 10, 11, 12] [
       ⟨(some 8), (.callF 31 [(.tmp 7)]), none⟩, 
       ⟨(some 10), (.load1 (.tmp 9)), none⟩, 
       ⟨(some 11), (.callF 32 [(.tmp 10)]), none⟩, 
       ⟨(some 12), (.build [(.slice none 0 0), (.slice none 0 0), (.slice none 0 0)] [(0, 1, (.tmp 5)), (1, 1, (.tmp 8)), (2, 1, (.tmp 11))]), none⟩, 
       ⟨none, (.storeN 3 (.tmp 2) (.tmp 12)), none⟩])
      (.any [3, 4, 5, 6, 7, 8, 9, 10, 11, 12] [
       ⟨(some 10), (.load1 (.tmp 9)), none⟩, 
       ⟨(some 8), (.callF 31 [(.tmp 7)]), none⟩, 
       ⟨(some 11), (.callF 32 [(.tmp 10)]), none⟩, 
       ⟨(some 12), (.build [(.slice none 0 0), (.slice none 0 0), (.slice none 0 0)] [(0, 1, (.tmp 5)), (1, 1, (.tmp 8)), (2, 1, (.tmp 11))]), none⟩, 
       ⟨none, (.storeN 3 (.tmp 2) (.tmp 12)), none⟩])))
    (.alt
     (.seq (.any [3, 4, 5, 6, 7, 8, 9, 10, 11, 12] [
       ⟨(some 7), (.load1 (.tmp 6)), none⟩])
      (.alt
       (.seq (.any [3, 4, 5, 6, 7, 8, 9, 10, 11, 12] [
         ⟨(some 5), (.callF 31 [(.tmp 4)]), none⟩])
        (.alt
         (.any [3, 4, 5, 6, 7, 8, 9, 10, 11, 12] [
          ⟨(some 8), (.callF 31 [(.tmp 7)]), none⟩, 
          ⟨(some 10), (.load1 (.tmp 9)), none⟩, 
          ⟨(some 11), (.callF 32 [(.tmp 10)]), none⟩, 
          ⟨(some 12), (.build [(.slice none 0 0), (.slice none 0 0), (.slice none 0 0)] [(0, 1, (.tmp 5)), (1, 1, (.tmp 8)), (2, 1, (.tmp 11))]), none⟩, 
          ⟨none, (.storeN 3 (.tmp 2) (.tmp 12)), none⟩])
         (.any [3, 4, 5, 6, 7, 8, 9, 10, 11, 12] [
          ⟨(some 10), (.load1 (.tmp 9)), none⟩, 
          ⟨(some 8), (.callF 31 [(.tmp 7)]), none⟩, 
          ⟨(some 11), (.callF 32 [(.tmp 10)]), none⟩, 
          ⟨(some 12), (.build [(.slice none 0 0), (.slice none 0 0), (.slice none 0 0)] [(0, 1, (.tmp 5)), (1, 1, (.tmp 8)), (2, 1, (.tmp 11))]), none⟩, 
          ⟨none, (.storeN 3 (.tmp 2) (.tmp 12)), none⟩])))
       (.any [3, 4, 5, 6, 7, 8, 9, 10, 11, 12] [
        ⟨(some 10), (.load1 (.tmp 9)), none⟩, 
        ⟨(some 5), (.callF 31 [(.tmp 4)]), none⟩, 
        ⟨(some 8), (.callF 31 [(.tmp 7)]), none⟩, 
        ⟨(some 11), (.callF 32 [(.tmp 10)]), none⟩, 
        ⟨(some 12), (.build [(.slice none 0 0), (.slice none 0 0), (.slice none 0 0)] [(0, 1, (.tmp 5)), (1, 1, (.tmp 8)), (2, 1, (.tmp 11))]), none⟩, 
        ⟨none, (.storeN 3 (.tmp 2) (.tmp 12)), none⟩])))
     (.seq (.any [3, 4, 5, 6, 7, 8, 9, 10, 11, 12] [
       ⟨(some 10), (.load1 (.tmp 9)), none⟩])
      (.alt
       (.any [3, 4, 5, 6, 7, 8, 9, 10, 11, 12] [
        ⟨(some 5), (.callF 31 [(.tmp 4)]), none⟩, 
        ⟨(some 7), (.load1 (.tmp 6)), none⟩, 
        ⟨(some 8), (.callF 31 [(.tmp 7)]), none⟩, 
        ⟨(some 11), (.callF 32 [(.tmp 10)]), none⟩, 
        ⟨(some 12), (.build [(.slice none 0 0), (.slice none 0 0), (.slice none 0 0)] [(0, 1, (.tmp 5)), (1, 1, (.tmp 8)), (2, 1, (.tmp 11))]), none⟩, 
        ⟨none, (.storeN 3 (.tmp 2) (.tmp 12)), none⟩])
       (.any [3, 4, 5, 6, 7, 8, 9, 10, 11, 12] [
        ⟨(some 7), (.load1 (.tmp 6)), none⟩, 
        ⟨(some 5), (.callF 31 [(.tmp 4)]), none⟩, 
        ⟨(some 8), (.callF 31 [(.tmp 7)]), none⟩, 
        ⟨(some 11), (.callF 32 [(.tmp 10)]), none⟩, 
        ⟨(some 12), (.build [(.slice none 0 0), (.slice none 0 0), (.slice none 0 0)] [(0, 1, (.tmp 5)), (1, 1, (.tmp 8)), (2, 1, (.tmp 11))]), none⟩, 
        ⟨none, (.storeN 3 (.tmp 2) (.tmp 12)), none⟩]))))))
  .ret))
theorem c20 {args : Array Value} {h : Heap} {R : Ending → Heap → Prop} (ha : args.size ≤ 13) (hh : aexec Try.prog ac20 (abody [(.cellN 2 3)] R) ⟨initFr args.toList, []⟩ h) : HCalls Try.prog 20 args h R :=
  hcalls_of Try.func20 rfl rfl (by kernel_rfl) (by kernel_rfl) ha hh
/-- 21: credenza/node.Check -/
def ac21 : ACode :=
 (.seq (.ops [
  ⟨(some 1), (.box 41 (.tmp 0)), none⟩, 
  ⟨(some 2), (.mv (.const (.int .i64 0))), none⟩])
 (.seq (.any [13, 14, 15, 16, 17, 18, 19, 3, 4] [
   ⟨(some 13), (.fieldAddr 0 (.tmp 1)), none⟩, 
   ⟨(some 14), (.load1 (.tmp 13)), none⟩, 
   ⟨(some 15), (.lenSl (.tmp 14)), none⟩, 
   ⟨(some 16), (.fieldAddr 0 (.tmp 1)), none⟩, 
   ⟨(some 17), (.load1 (.tmp 16)), none⟩, 
   ⟨(some 18), (.lenSl (.tmp 17)), none⟩, 
   ⟨(some 19), (.bin .leq (.tmp 18) (.const (.int .i64 3))), none⟩, 
   ⟨(some 3), (.mv (.tmp 15)), none⟩, 
   ⟨(some 4), (.mv (.tmp 19)), none⟩])
  (.seq (.seq (.ops [
     ⟨(some 20), (.fieldAddr 2 (.tmp 1)), none⟩, 
     ⟨(some 21), (.load1 (.tmp 20)), none⟩, 
     ⟨(some 22), (.lenSl (.tmp 21)), none⟩, 
     ⟨(some 5), (.mv (.tmp 22)), none⟩])
    (.seq (.ops [
      ⟨(some 23), (.mv (.tmp 5)), none⟩, 
      ⟨(some 24), (.bin .gtr (.tmp 23) (.const (.int .i64 0))), none⟩])
     (.cond (.tmp 24)
      (.any [25, 26, 27, 28, 29, 30, 31, 32, 33, 34, 35, 36, 37, 38, 3, 4] [
       ⟨(some 25), (.mv (.tmp 5)), none⟩, 
       ⟨(some 26), (.bin .geq (.tmp 25) (.const (.int .i64 2))), none⟩, 
       ⟨(some 27), (.mv (.tmp 26)), none⟩, 
       ⟨(some 28), (.mv (.tmp 5)), (some (27, true))⟩, 
       ⟨(some 29), (.bin .leq (.tmp 28) (.const (.int .i64 12))), (some (27, true))⟩, 
       ⟨(some 30), (.pick (.tmp 27) (.tmp 29) (.const (.bool false))), none⟩, 
       ⟨(some 31), (.mv (.tmp 30)), none⟩, 
       ⟨(some 32), (.fieldAddr 0 (.tmp 1)), (some (31, true))⟩, 
       ⟨(some 33), (.load1 (.tmp 32)), (some (31, true))⟩, 
       ⟨(some 34), (.lenSl (.tmp 33)), (some (31, true))⟩, 
       ⟨(some 35), (.mv (.tmp 5)), (some (31, true))⟩, 
       ⟨(some 36), (.bin .sub (.tmp 35) (.const (.int .i64 1))), (some (31, true))⟩, 
       ⟨(some 37), (.bin .eql (.tmp 34) (.tmp 36)), (some (31, true))⟩, 
       ⟨(some 38), (.pick (.tmp 31) (.tmp 37) (.const (.bool false))), none⟩, 
       ⟨(some 3), (.mv (.const (.int .i64 0))), none⟩, 
       ⟨(some 4), (.mv (.tmp 38)), none⟩])
      .skip)))
   (.seq (.ops [
     ⟨(some 39), (.mv (.tmp 4)), none⟩, 
     ⟨(some 40), (.mv (.tmp 39)), none⟩, 
     ⟨(some 41), (.fieldAddr 1 (.tmp 1)), (some (40, true))⟩, 
     ⟨(some 42), (.load1 (.tmp 41)), (some (40, true))⟩, 
     ⟨(some 43), (.lenSl (.tmp 42)), (some (40, true))⟩, 
     ⟨(some 44), (.mv (.tmp 3)), (some (40, true))⟩, 
     ⟨(some 45), (.bin .eql (.tmp 43) (.tmp 44)), (some (40, true))⟩, 
     ⟨(some 46), (.pick (.tmp 40) (.tmp 45) (.const (.bool false))), none⟩, 
     ⟨(some 6), (.mv (.tmp 46)), none⟩])
    (.seq (.seq (.ops [
       ⟨(some 47), (.fieldAddr 0 (.tmp 1)), none⟩, 
       ⟨(some 48), (.load1 (.tmp 47)), none⟩, 
       ⟨(some 49), (.lenSl (.tmp 48)), none⟩, 
       ⟨(some 50), (.mv (.const (.int .i64 0))), none⟩])
      (.block 0
       (.loop
        (.seq (.ops [
          ⟨(some 51), (.bin .lss (.tmp 50) (.tmp 49)), none⟩])
         (.seq (.cond (.tmp 51)
           .skip
           (.exit 0))
          (.seq (.block 1
            (.seq (.ops [
              ⟨(some 52), (.mv (.tmp 50)), none⟩, 
              ⟨(some 53), (.idxSl 1 (.tmp 48) (.tmp 50)), none⟩, 
              ⟨(some 54), (.load1 (.tmp 53)), none⟩, 
              ⟨(some 7), (.mv (.tmp 52)), none⟩, 
              ⟨(some 8), (.mv (.tmp 54)), none⟩])
             (.ops [
              ⟨(some 55), (.mv (.tmp 6)), none⟩, 
              ⟨(some 56), (.mv (.tmp 55)), none⟩, 
              ⟨(some 57), (.mv (.tmp 8)), (some (56, true))⟩, 
              ⟨(some 58), (.lenStr (.tmp 57)), (some (56, true))⟩, 
              ⟨(some 59), (.bin .leq (.tmp 58) (.const (.int .i64 256))), (some (56, true))⟩, 
              ⟨(some 60), (.pick (.tmp 56) (.tmp 59) (.const (.bool false))), none⟩, 
              ⟨(some 61), (.mv (.tmp 60)), none⟩, 
              ⟨(some 62), (.mv (.tmp 7)), (some (61, true))⟩, 
              ⟨(some 63), (.bin .eql (.tmp 62) (.const (.int .i64 0))), (some (61, true))⟩, 
              ⟨(some 64), (.mv (.tmp 63)), (some (61, true))⟩, 
              ⟨(some 65), (.fieldAddr 0 (.tmp 1)), (some (64, false))⟩, 
              ⟨(some 66), (.load1 (.tmp 65)), (some (64, false))⟩, 
              ⟨(some 67), (.mv (.tmp 7)), (some (64, false))⟩, 
              ⟨(some 68), (.bin .sub (.tmp 67) (.const (.int .i64 1))), (some (64, false))⟩, 
              ⟨(some 69), (.idxSl 1 (.tmp 66) (.tmp 68)), (some (64, false))⟩, 
              ⟨(some 70), (.load1 (.tmp 69)), (some (64, false))⟩, 
              ⟨(some 71), (.mv (.tmp 8)), (some (64, false))⟩, 
              ⟨(some 72), (.bin .lss (.tmp 70) (.tmp 71)), (some (64, false))⟩, 
              ⟨(some 73), (.pick (.tmp 64) (.const (.bool true)) (.tmp 72)), (some (61, true))⟩, 
              ⟨(some 74), (.pick (.tmp 61) (.tmp 73) (.const (.bool false))), none⟩, 
              ⟨(some 6), (.mv (.tmp 74)), none⟩])))
           (.ops [
            ⟨(some 75), (.bin .add (.tmp 50) (.const (.int .i64 1))), none⟩, 
            ⟨(some 50), (.mv (.tmp 75)), none⟩])))))))
     (.seq (.seq (.ops [
        ⟨(some 76), (.fieldAddr 1 (.tmp 1)), none⟩, 
        ⟨(some 77), (.load1 (.tmp 76)), none⟩, 
        ⟨(some 78), (.lenSl (.tmp 77)), none⟩, 
        ⟨(some 79), (.mv (.const (.int .i64 0))), none⟩])
       (.block 2
        (.loop
         (.seq (.ops [
           ⟨(some 80), (.bin .lss (.tmp 79) (.tmp 78)), none⟩])
          (.seq (.cond (.tmp 80)
            .skip
            (.exit 2))
           (.seq (.block 3
             (.seq (.ops [
               ⟨(some 81), (.idxSl 1 (.tmp 77) (.tmp 79)), none⟩, 
               ⟨(some 82), (.load1 (.tmp 81)), none⟩, 
               ⟨(some 10), (.mv (.tmp 82)), none⟩])
              (.ops [
               ⟨(some 83), (.mv (.tmp 6)), none⟩, 
               ⟨(some 84), (.mv (.tmp 83)), none⟩, 
               ⟨(some 85), (.mv (.tmp 10)), (some (84, true))⟩, 
               ⟨(some 86), (.lenStr (.tmp 85)), (some (84, true))⟩, 
               ⟨(some 87), (.bin .leq (.tmp 86) (.const (.int .i64 1024))), (some (84, true))⟩, 
               ⟨(some 88), (.pick (.tmp 84) (.tmp 87) (.const (.bool false))), none⟩, 
               ⟨(some 6), (.mv (.tmp 88)), none⟩])))
            (.ops [
             ⟨(some 89), (.bin .add (.tmp 79) (.const (.int .i64 1))), none⟩, 
             ⟨(some 79), (.mv (.tmp 89)), none⟩])))))))
      (.seq (.seq (.ops [
         ⟨(some 90), (.fieldAddr 2 (.tmp 1)), none⟩, 
         ⟨(some 91), (.load1 (.tmp 90)), none⟩, 
         ⟨(some 92), (.lenSl (.tmp 91)), none⟩, 
         ⟨(some 93), (.mv (.const (.int .i64 0))), none⟩])
        (.block 4
         (.loop
          (.seq (.ops [
            ⟨(some 94), (.bin .lss (.tmp 93) (.tmp 92)), none⟩])
           (.seq (.cond (.tmp 94)
             .skip
             (.exit 4))
            (.seq (.block 5
              (.seq (.ops [
                ⟨(some 95), (.idxSl 1 (.tmp 91) (.tmp 93)), none⟩, 
                ⟨(some 96), (.load1 (.tmp 95)), none⟩, 
                ⟨(some 12), (.mv (.tmp 96)), none⟩])
               (.ops [
                ⟨(some 97), (.mv (.tmp 6)), none⟩, 
                ⟨(some 98), (.mv (.tmp 97)), none⟩, 
                ⟨(some 99), (.mv (.tmp 12)), (some (98, true))⟩, 
                ⟨(some 100), (.bin .geq (.tmp 99) (.const (.int .i64 1))), (some (98, true))⟩, 
                ⟨(some 101), (.pick (.tmp 98) (.tmp 100) (.const (.bool false))), none⟩, 
                ⟨(some 102), (.mv (.tmp 101)), none⟩, 
                ⟨(some 103), (.mv (.tmp 12)), (some (102, true))⟩, 
                ⟨(some 104), (.bin .leq (.tmp 103) (.const (.int .i64 2147483647))), (some (102, true))⟩, 
                ⟨(some 105), (.pick (.tmp 102) (.tmp 104) (.const (.bool false))), none⟩, 
                ⟨(some 6), (.mv (.tmp 105)), none⟩])))
             (.ops [
              ⟨(some 106), (.bin .add (.tmp 93) (.const (.int .i64 1))), none⟩, 
              ⟨(some 93), (.mv (.tmp 106)), none⟩])))))))
       (.seq (.seq (.ops [
          ⟨(some 107), (.mv (.tmp 6)), none⟩, 
          ⟨(some 108), (.un .not (.tmp 107)), none⟩])
         (.cond (.tmp 108)
          (.seq (.ops [
            ⟨(some 2), (.mv (.const (.int .i64 190))), none⟩])
           .ret)
          .skip))
        (.seq (.ops [
          ⟨(some 2), (.mv (.const (.int .i64 0))), none⟩])
         .ret)))))))))
theorem c21 {args : Array Value} {h : Heap} {R : Ending → Heap → Prop} (ha : args.size ≤ 109) (hh : aexec Try.prog ac21 (abody [(.slot 2)] R) ⟨initFr args.toList, []⟩ h) : HCalls Try.prog 21 args h R :=
  hcalls_of Try.func21 rfl rfl (by kernel_rfl) (by kernel_rfl) ha hh
/-- 22: (*credenza/btree.Tree).under -/
def ac22 : ACode :=
 (.seq (.ops [
  ⟨(some 2), (.box 24 (.tmp 0)), none⟩, 
  ⟨(some 3), (.box 3 (.tmp 1)), none⟩, 
  ⟨(some 4), (.mv (.const .nilFunc)), none⟩])
 (.seq (.ops [
   ⟨(some 5), (.mkFunc (.func 33) [] [(.tmp 3), (.tmp 2)]), none⟩, 
   ⟨(some 4), (.mv (.tmp 5)), none⟩])
  .ret))
theorem c22 {args : Array Value} {h : Heap} {R : Ending → Heap → Prop} (ha : args.size ≤ 6) (hh : aexec Try.prog ac22 (abody [(.slot 4)] R) ⟨initFr args.toList, []⟩ h) : HCalls Try.prog 22 args h R :=
  hcalls_of Try.func22 rfl rfl (by kernel_rfl) (by kernel_rfl) ha hh
/-- 23: credenza/btree.at -/
def ac23 : ACode :=
 (.seq (.ops [
  ⟨(some 4), (.mv (.const (.int .i64 0))), none⟩, 
  ⟨(some 5), (.mv (.const (.bool false))), none⟩])
 (.seq (.ops [
   ⟨(some 7), (.mv (.tmp 0)), none⟩, 
   ⟨(some 8), (.mv (.tmp 1)), none⟩, 
   ⟨(some 9), (.callF 34 [(.tmp 7), (.tmp 8)]), none⟩, 
   ⟨(some 6), (.mv (.tmp 9)), none⟩])
  (.seq (.any [10, 11, 12, 13, 14, 15, 16, 17, 18, 19, 20, 21, 22, 4, 5] [
    ⟨(some 10), (.mv (.tmp 6)), none⟩, 
    ⟨(some 11), (.mv (.tmp 6)), none⟩, 
    ⟨(some 12), (.mv (.tmp 0)), none⟩, 
    ⟨(some 13), (.lenSl (.tmp 12)), none⟩, 
    ⟨(some 14), (.bin .lss (.tmp 11) (.tmp 13)), none⟩, 
    ⟨(some 15), (.mv (.tmp 14)), none⟩, 
    ⟨(some 16), (.mv (.tmp 0)), (some (15, true))⟩, 
    ⟨(some 17), (.mv (.tmp 6)), (some (15, true))⟩, 
    ⟨(some 18), (.idxSl 1 (.tmp 16) (.tmp 17)), (some (15, true))⟩, 
    ⟨(some 19), (.load1 (.tmp 18)), (some (15, true))⟩, 
    ⟨(some 20), (.mv (.tmp 1)), (some (15, true))⟩, 
    ⟨(some 21), (.bin .eql (.tmp 19) (.tmp 20)), (some (15, true))⟩, 
    ⟨(some 22), (.pick (.tmp 15) (.tmp 21) (.const (.bool false))), none⟩, 
    ⟨(some 4), (.mv (.tmp 10)), none⟩, 
    ⟨(some 5), (.mv (.tmp 22)), none⟩])
   .ret)))
theorem c23 {args : Array Value} {h : Heap} {R : Ending → Heap → Prop} (ha : args.size ≤ 23) (hh : aexec Try.prog ac23 (abody [(.slot 4), (.slot 5)] R) ⟨initFr args.toList, []⟩ h) : HCalls Try.prog 23 args h R :=
  hcalls_of Try.func23 rfl rfl (by kernel_rfl) (by kernel_rfl) ha hh
/-- 24: slices.Insert[[]string,string] -/
def ac24 : ACode :=
 (.seq (.ops [
  ⟨(some 6), (.mv (.const (.slice none 0 0))), none⟩])
 (.seq (.ops [
   ⟨(some 10), (.mv (.tmp 0)), none⟩, 
   ⟨(some 11), (.mv (.tmp 1)), none⟩, 
   ⟨(some 12), (.sliceSl 1 (.tmp 10) (some (.tmp 11)) none none), none⟩])
  (.seq (.ops [
    ⟨(some 13), (.mv (.tmp 2)), none⟩, 
    ⟨(some 14), (.lenSl (.tmp 13)), none⟩, 
    ⟨(some 7), (.mv (.tmp 14)), none⟩])
   (.seq (.seq (.ops [
      ⟨(some 15), (.mv (.tmp 7)), none⟩, 
      ⟨(some 16), (.bin .eql (.tmp 15) (.const (.int .i64 0))), none⟩])
     (.cond (.tmp 16)
      (.seq (.ops [
        ⟨(some 17), (.mv (.tmp 0)), none⟩, 
        ⟨(some 6), (.mv (.tmp 17)), none⟩])
       .ret)
      .skip))
    (.seq (.ops [
      ⟨(some 18), (.mv (.tmp 0)), none⟩, 
      ⟨(some 19), (.lenSl (.tmp 18)), none⟩, 
      ⟨(some 8), (.mv (.tmp 19)), none⟩])
     (.seq (.seq (.ops [
        ⟨(some 20), (.mv (.tmp 1)), none⟩, 
        ⟨(some 21), (.mv (.tmp 8)), none⟩, 
        ⟨(some 22), (.bin .eql (.tmp 20) (.tmp 21)), none⟩])
       (.cond (.tmp 22)
        (.seq (.ops [
          ⟨(some 23), (.mv (.tmp 0)), none⟩, 
          ⟨(some 24), (.mv (.tmp 2)), none⟩, 
          ⟨(some 25), (.append 9 1 16 [(.string ⟨#[]⟩)] (.tmp 23) (.tmp 24)), none⟩, 
          ⟨(some 6), (.mv (.tmp 25)), none⟩])
         .ret)
        .skip))
      (.seq (.seq (.ops [
         ⟨(some 26), (.mv (.tmp 8)), none⟩, 
         ⟨(some 27), (.mv (.tmp 7)), none⟩, 
         ⟨(some 28), (.bin .add (.tmp 26) (.tmp 27)), none⟩, 
         ⟨(some 29), (.mv (.tmp 0)), none⟩, 
         ⟨(some 30), (.raw ⟨(some 30), (.call ⟨(.builtin .cap), #[(.tmp 29)], #[38]⟩), 3, "slices.go:147", #[⟨3, .data⟩], none⟩), none⟩, 
         ⟨(some 31), (.bin .gtr (.tmp 28) (.tmp 30)), none⟩])
        (.cond (.tmp 31)
         (.seq (.ops [
           ⟨(some 32), (.mv (.tmp 0)), none⟩, 
           ⟨(some 33), (.mv (.tmp 1)), none⟩, 
           ⟨(some 34), (.sliceSl 1 (.tmp 32) none (some (.tmp 33)) none), none⟩, 
           ⟨(some 35), (.mv (.tmp 8)), none⟩, 
           ⟨(some 36), (.mv (.tmp 7)), none⟩, 
           ⟨(some 37), (.bin .add (.tmp 35) (.tmp 36)), none⟩, 
           ⟨(some 38), (.mv (.tmp 1)), none⟩, 
           ⟨(some 39), (.bin .sub (.tmp 37) (.tmp 38)), none⟩, 
           ⟨(some 40), (.appendZ 9 1 16 [(.string ⟨#[]⟩)] (.tmp 34) (.tmp 39)), none⟩, 
           ⟨(some 9), (.mv (.tmp 40)), none⟩])
          (.seq (.ops [
            ⟨(some 41), (.mv (.tmp 9)), none⟩, 
            ⟨(some 42), (.mv (.tmp 1)), none⟩, 
            ⟨(some 43), (.sliceSl 1 (.tmp 41) (some (.tmp 42)) none none), none⟩, 
            ⟨(some 44), (.mv (.tmp 2)), none⟩, 
            ⟨(some 45), (.copy 1 (.tmp 43) (.tmp 44)), none⟩])
           (.seq (.any [46, 47, 48, 49, 50, 51, 52, 53, 54] [
             ⟨(some 46), (.mv (.tmp 9)), none⟩, 
             ⟨(some 47), (.mv (.tmp 1)), none⟩, 
             ⟨(some 48), (.mv (.tmp 7)), none⟩, 
             ⟨(some 49), (.bin .add (.tmp 47) (.tmp 48)), none⟩, 
             ⟨(some 50), (.sliceSl 1 (.tmp 46) (some (.tmp 49)) none none), none⟩, 
             ⟨(some 51), (.mv (.tmp 0)), none⟩, 
             ⟨(some 52), (.mv (.tmp 1)), none⟩, 
             ⟨(some 53), (.sliceSl 1 (.tmp 51) (some (.tmp 52)) none none), none⟩, 
             ⟨(some 54), (.copy 1 (.tmp 50) (.tmp 53)), none⟩])
            (.seq (.ops [
              ⟨(some 55), (.mv (.tmp 9)), none⟩, 
              ⟨(some 6), (.mv (.tmp 55)), none⟩])
             .ret))))
         .skip))
       (.seq (.ops [
         ⟨(some 56), (.mv (.tmp 0)), none⟩, 
         ⟨(some 57), (.mv (.tmp 8)), none⟩, 
         ⟨(some 58), (.mv (.tmp 7)), none⟩, 
         ⟨(some 59), (.bin .add (.tmp 57) (.tmp 58)), none⟩, 
         ⟨(some 60), (.sliceSl 1 (.tmp 56) none (some (.tmp 59)) none), none⟩, 
         ⟨(some 0), (.mv (.tmp 60)), none⟩])
        (.seq (.seq (.ops [
           ⟨(some 61), (.mv (.tmp 2)), none⟩, 
           ⟨(some 62), (.mv (.tmp 0)), none⟩, 
           ⟨(some 63), (.mv (.tmp 1)), none⟩, 
           ⟨(some 64), (.mv (.tmp 7)), none⟩, 
           ⟨(some 65), (.bin .add (.tmp 63) (.tmp 64)), none⟩, 
           ⟨(some 66), (.sliceSl 1 (.tmp 62) (some (.tmp 65)) none none), none⟩, 
           ⟨(some 67), (.raw ⟨(some 67), (.call ⟨(.value (.func 35)), #[(.tmp 61), (.tmp 66)], #[38, 38]⟩), 4, "slices.go:173", #[⟨0, .data⟩, ⟨5, .data⟩], none⟩), none⟩, 
           ⟨(some 68), (.un .not (.tmp 67)), none⟩])
          (.cond (.tmp 68)
           (.seq (.any [69, 70, 71, 72, 73, 74, 75, 76, 77] [
             ⟨(some 69), (.mv (.tmp 0)), none⟩, 
             ⟨(some 70), (.mv (.tmp 1)), none⟩, 
             ⟨(some 71), (.mv (.tmp 7)), none⟩, 
             ⟨(some 72), (.bin .add (.tmp 70) (.tmp 71)), none⟩, 
             ⟨(some 73), (.sliceSl 1 (.tmp 69) (some (.tmp 72)) none none), none⟩, 
             ⟨(some 74), (.mv (.tmp 0)), none⟩, 
             ⟨(some 75), (.mv (.tmp 1)), none⟩, 
             ⟨(some 76), (.sliceSl 1 (.tmp 74) (some (.tmp 75)) none none), none⟩, 
             ⟨(some 77), (.copy 1 (.tmp 73) (.tmp 76)), none⟩])
            (.seq (.ops [
              ⟨(some 78), (.mv (.tmp 0)), none⟩, 
              ⟨(some 79), (.mv (.tmp 1)), none⟩, 
              ⟨(some 80), (.sliceSl 1 (.tmp 78) (some (.tmp 79)) none none), none⟩, 
              ⟨(some 81), (.mv (.tmp 2)), none⟩, 
              ⟨(some 82), (.copy 1 (.tmp 80) (.tmp 81)), none⟩])
             (.seq (.ops [
               ⟨(some 83), (.mv (.tmp 0)), none⟩, 
               ⟨(some 6), (.mv (.tmp 83)), none⟩])
              .ret)))
           .skip))
         (.seq (.ops [
           ⟨(some 84), (.mv (.tmp 0)), none⟩, 
           ⟨(some 85), (.mv (.tmp 8)), none⟩, 
           ⟨(some 86), (.sliceSl 1 (.tmp 84) (some (.tmp 85)) none none), none⟩, 
           ⟨(some 87), (.mv (.tmp 2)), none⟩, 
           ⟨(some 88), (.copy 1 (.tmp 86) (.tmp 87)), none⟩])
          (.seq (.ops [
            ⟨(some 89), (.mv (.tmp 0)), none⟩, 
            ⟨(some 90), (.mv (.tmp 1)), none⟩, 
            ⟨(some 91), (.sliceSl 1 (.tmp 89) (some (.tmp 90)) none none), none⟩, 
            ⟨(some 92), (.mv (.tmp 7)), none⟩, 
            ⟨(some 93), (.callF 36 [(.tmp 91), (.tmp 92)]), none⟩])
           (.seq (.ops [
             ⟨(some 94), (.mv (.tmp 0)), none⟩, 
             ⟨(some 6), (.mv (.tmp 94)), none⟩])
            .ret))))))))))))
theorem c24 {args : Array Value} {h : Heap} {R : Ending → Heap → Prop} (ha : args.size ≤ 95) (hh : aexec Try.prog ac24 (abody [(.slot 6)] R) ⟨initFr args.toList, []⟩ h) : HCalls Try.prog 24 args h R :=
  hcalls_of Try.func24 rfl rfl (by kernel_rfl) (by kernel_rfl) ha hh
/-- 25: (*credenza/btree.Tree).halves -/
def ac25 : ACode :=
 (.seq (.ops [
  ⟨(some 3), (.box 41 (.tmp 1)), none⟩, 
  ⟨(some 4), (.mv (.const (.slice none 0 0))), none⟩, 
  ⟨(some 5), (.mv (.const (.string ⟨#[]⟩))), none⟩])
 (.seq (.ops [
   ⟨(some 13), (.fieldAddr 0 (.tmp 3)), none⟩, 
   ⟨(some 14), (.load1 (.tmp 13)), none⟩, 
   ⟨(some 15), (.lenSl (.tmp 14)), none⟩, 
   ⟨(some 6), (.mv (.tmp 15)), none⟩])
  (.seq (.block 0
    (.seq (.ops [
      ⟨(some 17), (.fieldAddr 2 (.tmp 3)), none⟩, 
      ⟨(some 18), (.load1 (.tmp 17)), none⟩, 
      ⟨(some 19), (.lenSl (.tmp 18)), none⟩, 
      ⟨(some 20), (.bin .gtr (.tmp 19) (.const (.int .i64 12))), none⟩, 
      ⟨(some 16), (.mv (.tmp 20)), none⟩])
     (.cond (.tmp 16)
      (.seq (.ops [
        ⟨(some 21), (.fieldAddr 2 (.tmp 3)), none⟩, 
        ⟨(some 22), (.load1 (.tmp 21)), none⟩, 
        ⟨(some 23), (.lenSl (.tmp 22)), none⟩, 
        ⟨(some 24), (.bin .quo (.tmp 23) (.const (.int .i64 2))), none⟩, 
        ⟨(some 7), (.mv (.tmp 24)), none⟩])
       (.seq (.seq (.any [25, 26, 27, 28, 29, 30, 31, 32, 33, 34, 35, 36, 8] [
          ⟨(some 25), (.fieldAddr 0 (.tmp 3)), none⟩, 
          ⟨(some 26), (.load1 (.tmp 25)), none⟩, 
          ⟨(some 27), (.mv (.tmp 7)), none⟩, 
          ⟨(some 28), (.bin .sub (.tmp 27) (.const (.int .i64 1))), none⟩, 
          ⟨(some 29), (.sliceSl 1 (.tmp 26) none (some (.tmp 28)) none), none⟩, 
          ⟨(some 31), (.fieldAddr 2 (.tmp 3)), none⟩, 
          ⟨(some 33), (.mv (.tmp 7)), none⟩])
         (.alt
          (.seq (.any [25, 26, 27, 28, 29, 30, 31, 32, 33, 34, 35, 36, 8] [
            ⟨(some 30), (.callF 31 [(.tmp 29)]), none⟩, 
            ⟨(some 32), (.load1 (.tmp 31)), none⟩, 
            ⟨(some 34), (.sliceSl 1 (.tmp 32) none (some (.tmp 33)) none), none⟩])
           (.alt
            (.any [25, 26, 27, 28, 29, 30, 31, 32, 33, 34, 35, 36, 8] [
             ⟨(some 35), (.callF 32 [(.tmp 34)]), none⟩, 
             ⟨(some 36), (.build [(.slice none 0 0), (.slice none 0 0), (.slice none 0 0)] [(0, 1, (.tmp 30)), (2, 1, (.tmp 35))]), none⟩, 
             ⟨(some 8), (.new 41 [(.slice none 0 0), (.slice none 0 0), (.slice none 0 0)]), none⟩, 
             ⟨none, (.storeN 3 (.tmp 8) (.tmp 36)), none⟩])
            (.any [25, 26, 27, 28, 29, 30, 31, 32, 33, 34, 35, 36, 8] [
             ⟨(some 8), (.new 41 [(.slice none 0 0), (.slice none 0 0), (.slice none 0 0)]), none⟩, 
             ⟨(some 35), (.callF 32 [(.tmp 34)]), none⟩, 
             ⟨(some 36), (.build [(.slice none 0 0), (.slice none 0 0), (.slice none 0 0)] [(0, 1, (.tmp 30)), (2, 1, (.tmp 35))]), none⟩, 
             ⟨none, (.storeN 3 (.tmp 8) (.tmp 36)), none⟩])))
          (.alt
           (.seq (.any [25, 26, 27, 28, 29, 30, 31, 32, 33, 34, 35, 36, 8] [
             ⟨(some 32), (.load1 (.tmp 31)), none⟩, 
             ⟨(some 34), (.sliceSl 1 (.tmp 32) none (some (.tmp 33)) none), none⟩])
            (.alt
             (.seq (.any [25, 26, 27, 28, 29, 30, 31, 32, 33, 34, 35, 36, 8] [
               ⟨(some 30), (.callF 31 [(.tmp 29)]), none⟩])
              (.alt
               (.any [25, 26, 27, 28, 29, 30, 31, 32, 33, 34, 35, 36, 8] [
                ⟨(some 35), (.callF 32 [(.tmp 34)]), none⟩, 
                ⟨(some 36), (.build [(.slice none 0 0), (.slice none 0 0), (.slice none 0 0)] [(0, 1, (.tmp 30)), (2, 1, (.tmp 35))]), none⟩, 
                ⟨(some 8), (.new 41 [(.slice none 0 0), (.slice none 0 0), (.slice none 0 0)]), none⟩, 
                ⟨none, (.storeN 3 (.tmp 8) (.tmp 36)), none⟩])
               (.any [25, 26, 27, 28, 29, 30, 31, 32, 33, 34, 35, 36, 8] [
                ⟨(some 8), (.new 41 [(.slice none 0 0), (.slice none 0 0), (.slice none 0 0)]), none⟩, 
                ⟨(some 35), (.callF 32 [(.tmp 34)]), none⟩, 
                ⟨(some 36), (.build [(.slice none 0 0), (.slice none 0 0), (.slice none 0 0)] [(0, 1, (.tmp 30)), (2, 1, (.tmp 35))]), none⟩, 
                ⟨none, (.storeN 3 (.tmp 8) (.tmp 36)), none⟩])))
             (.any [25, 26, 27, 28, 29, 30, 31, 32, 33, 34, 35, 36, 8] [
              ⟨(some 8), (.new 41 [(.slice none 0 0), (.slice none 0 0), (.slice none 0 0)]), none⟩, 
              ⟨(some 30), (.callF 31 [(.tmp 29)]), none⟩, 
              ⟨(some 35), (.callF 32 [(.tmp 34)]), none⟩, 
              ⟨(some 36), (.build [(.slice none 0 0), (.slice none 0 0), (.slice none 0 0)] [(0, 1, (.tmp 30)), (2, 1, (.tmp 35))]), none⟩, 
              ⟨none, (.storeN 3 (.tmp 8) (.tmp 36)), none⟩])))
           (.seq (.any [25, 26, 27, 28, 29, 30, 31, 32, 33, 34, 35, 36, 8] [
             ⟨(some 8), (.new 41 [(.slice none 0 0), (.slice none 0 0), (.slice none 0 0)]), none⟩])
            (.alt
             (.any [25, 26, 27, 28, 29, 30, 31, 32, 33, 34, 35, 36, 8] [
              ⟨(some 30), (.callF 31 [(.tmp 29)]), none⟩, 
              ⟨(some 32), (.load1 (.tmp 31)), none⟩, 
              ⟨(some 34), (.sliceSl 1 (.tmp 32) none (some (.tmp 33)) none), none⟩, 
              ⟨(some 35), (.callF 32 [(.tmp 34)]), none⟩, 
              ⟨(some 36), (.build [(.slice none 0 0), (.slice none 0 0), (.slice none 0 0)] [(0, 1, (.tmp 30)), (2, 1, (.tmp 35))]), none⟩, 
              ⟨none, (.storeN 3 (.tmp 8) (.tmp 36)), none⟩])
             (.any [25, 26, 27, 28, 29, 30, 31, 32, 33, 34, 35, 36, 8] [
              ⟨(some 32), (.load1 (.tmp 31)), none⟩, 
              ⟨(some 34), (.sliceSl 1 (.tmp 32) none (some (.tmp 33)) none), none⟩, 
              ⟨(some 30), (.callF 31 [(.tmp 29)]), none⟩, 
              ⟨(some 35), (.callF 32 [(.tmp 34)]), none⟩, 
              ⟨(some 36), (.build [(.slice none 0 0), (.slice none 0 0), (.slice none 0 0)] [(0, 1, (.tmp 30)), (2, 1, (.tmp 35))]), none⟩, 
              ⟨none, (.storeN 3 (.tmp 8) (.tmp 36)), none⟩]))))))
        (.seq (.seq (.any [37, 38, 39, 40, 41, 42, 43, 44, 45, 46, 47, 9] [
           ⟨(some 37), (.fieldAddr 0 (.tmp 3)), none⟩, 
           ⟨(some 38), (.load1 (.tmp 37)), none⟩, 
           ⟨(some 39), (.mv (.tmp 7)), none⟩, 
           ⟨(some 40), (.sliceSl 1 (.tmp 38) (some (.tmp 39)) none none), none⟩, 
           ⟨(some 42), (.fieldAddr 2 (.tmp 3)), none⟩, 
           ⟨(some 44), (.mv (.tmp 7)), none⟩])
          (.alt
           (.seq (.any [37, 38, 39, 40, 41, 42, 43, 44, 45, 46, 47, 9] [
             ⟨(some 41), (.callF 31 [(.tmp 40)]), none⟩, 
             ⟨(some 43), (.load1 (.tmp 42)), none⟩, 
             ⟨(some 45), (.sliceSl 1 (.tmp 43) (some (.tmp 44)) none none), none⟩])
            (.alt
             (.any [37, 38, 39, 40, 41, 42, 43, 44, 45, 46, 47, 9] [
              ⟨(some 46), (.callF 32 [(.tmp 45)]), none⟩, 
              ⟨(some 47), (.build [(.slice none 0 0), (.slice none 0 0), (.slice none 0 0)] [(0, 1, (.tmp 41)), (2, 1, (.tmp 46))]), none⟩, 
              ⟨(some 9), (.new 41 [(.slice none 0 0), (.slice none 0 0), (.slice none 0 0)]), none⟩, 
              ⟨none, (.storeN 3 (.tmp 9) (.tmp 47)), none⟩])
             (.any [37, 38, 39, 40, 41, 42, 43, 44, 45, 46, 47, 9] [
              ⟨(some 9), (.new 41 [(.slice none 0 0), (.slice none 0 0), (.slice none 0 0)]), none⟩, 
              ⟨(some 46), (.callF 32 [(.tmp 45)]), none⟩, 
              ⟨(some 47), (.build [(.slice none 0 0), (.slice none 0 0), (.slice none 0 0)] [(0, 1, (.tmp 41)), (2, 1, (.tmp 46))]), none⟩, 
              ⟨none, (.storeN 3 (.tmp 9) (.tmp 47)), none⟩])))
           (.alt
            (.seq (.any [37, 38, 39, 40, 41, 42, 43, 44, 45, 46, 47, 9] [
              ⟨(some 43), (.load1 (.tmp 42)), none⟩, 
              ⟨(some 45), (.sliceSl 1 (.tmp 43) (some (.tmp 44)) none none), none⟩])
             (.alt
              (.seq (.any [37, 38, 39, 40, 41, 42, 43, 44, 45, 46, 47, 9] [
                ⟨(some 41), (.callF 31 [(.tmp 40)]), none⟩])
               (.alt
                (.any [37, 38, 39, 40, 41, 42, 43, 44, 45, 46, 47, 9] [
                 ⟨(some 46), (.callF 32 [(.tmp 45)]), none⟩, 
                 ⟨(some 47), (.build [(.slice none 0 0), (.slice none 0 0), (.slice none 0 0)] [(0, 1, (.tmp 41)), (2, 1, (.tmp 46))]), none⟩, 
                 ⟨(some 9), (.new 41 [(.slice none 0 0), (.slice none 0 0), (.slice none 0 0)]), none⟩, 
                 ⟨none, (.storeN 3 (.tmp 9) (.tmp 47)), none⟩])
                (.any [37, 38, 39, 40, 41, 42, 43, 44, 45, 46, 47, 9] [
                 ⟨(some 9), (.new 41 [(.slice none 0 0), (.slice none 0 0), (.slice none 0 0)]), none⟩, 
                 ⟨(some 46), (.callF 32 [(.tmp 45)]), none⟩, 
                 ⟨(some 47), (.build [(.slice none 0 0), (.slice none 0 0), (.slice none 0 0)] [(0, 1, (.tmp 41)), (2, 1, (.tmp 46))]), none⟩, 
                 ⟨none, (.storeN 3 (.tmp 9) (.tmp 47)), none⟩])))
              (.any [37, 38, 39, 40, 41, 42, 43, 44, 45, 46, 47, 9] [
               ⟨(some 9), (.new 41 [(.slice none 0 0), (.slice none 0 0), (.slice none 0 0)]), none⟩, 
               ⟨(some 41), (.callF 31 [(.tmp 40)]), none⟩, 
               ⟨(some 46), (.callF 32 [(.tmp 45)]), none⟩, 
               ⟨(some 47), (.build [(.slice none 0 0), (.slice none 0 0), (.slice none 0 0)] [(0, 1, (.tmp 41)), (2, 1, (.tmp 46))]), none⟩, 
               ⟨none, (.storeN 3 (.tmp 9) (.tmp 47)), none⟩])))
            (.seq (.any [37, 38, 39, 40, 41, 42, 43, 44, 45, 46, 47, 9] [
              ⟨(some 9), (.new 41 [(.slice none 0 0), (.slice none 0 0), (.slice none 0 0)]), none⟩])
             (.alt
              (.any [37, 38, 39, 40, 41, 42, 43, 44, 45, 46, 47, 9] [
               ⟨(some 41), (.callF 31 [(.tmp 40)]), none⟩, 
               ⟨(some 43), (.load1 (.tmp 42)), none⟩, 
               ⟨(some 45), (.sliceSl 1 (.tmp 43) (some (.tmp 44)) none none), none⟩, 
               ⟨(some 46), (.callF 32 [(.tmp 45)]), none⟩, 
               ⟨(some 47), (.build [(.slice none 0 0), (.slice none 0 0), (.slice none 0 0)] [(0, 1, (.tmp 41)), (2, 1, (.tmp 46))]), none⟩, 
               ⟨none, (.storeN 3 (.tmp 9) (.tmp 47)), none⟩])
              (.any [37, 38, 39, 40, 41, 42, 43, 44, 45, 46, 47, 9] [
               ⟨(some 43), (.load1 (.tmp 42)), none⟩, 
               ⟨(some 45), (.sliceSl 1 (.tmp 43) (some (.tmp 44)) none none), none⟩, 
               ⟨(some 41), (.callF 31 [(.tmp 40)]), none⟩, 
               ⟨(some 46), (.callF 32 [(.tmp 45)]), none⟩, 
               ⟨(some 47), (.build [(.slice none 0 0), (.slice none 0 0), (.slice none 0 0)] [(0, 1, (.tmp 41)), (2, 1, (.tmp 46))]), none⟩, 
               ⟨none, (.storeN 3 (.tmp 9) (.tmp 47)), none⟩]))))))
         (.seq (.seq (.any [48, 49, 50, 51, 52, 53, 54, 55, 56, 57, 58, 59, 60, 4, 5] [
            ⟨(some 48), (.mv (.tmp 0)), none⟩, 
            ⟨(some 49), (.loadN 3 (.tmp 8)), none⟩, 
            ⟨(some 51), (.mv (.tmp 0)), none⟩, 
            ⟨(some 55), (.fieldAddr 0 (.tmp 3)), none⟩, 
            ⟨(some 57), (.mv (.tmp 7)), none⟩, 
            ⟨(some 58), (.bin .sub (.tmp 57) (.const (.int .i64 1))), none⟩])
           (.alt
            (.seq (.any [48, 49, 50, 51, 52, 53, 54, 55, 56, 57, 58, 59, 60, 4, 5] [
              ⟨(some 50), (.callF 15 [(.tmp 48), (.tmp 49)]), none⟩, 
              ⟨(some 52), (.loadN 3 (.tmp 9)), none⟩])
             (.alt
              (.any [48, 49, 50, 51, 52, 53, 54, 55, 56, 57, 58, 59, 60, 4, 5] [
               ⟨(some 53), (.callF 15 [(.tmp 51), (.tmp 52)]), none⟩, 
               ⟨(some 56), (.load1 (.tmp 55)), none⟩, 
               ⟨(some 59), (.idxSl 1 (.tmp 56) (.tmp 58)), none⟩, 
               ⟨(some 60), (.load1 (.tmp 59)), none⟩, 
               ⟨(some 54), (.buildSlice 3 2 [(.int .i64 0), (.int .i64 0)] [(0, 1, (.tmp 50)), (1, 1, (.tmp 53))]), none⟩, 
               ⟨(some 4), (.mv (.tmp 54)), none⟩, 
               ⟨(some 5), (.mv (.tmp 60)), none⟩])
              (.seq (.any [48, 49, 50, 51, 52, 53, 54, 55, 56, 57, 58, 59, 60, 4, 5] [
                ⟨(some 56), (.load1 (.tmp 55)), none⟩, 
                ⟨(some 59), (.idxSl 1 (.tmp 56) (.tmp 58)), none⟩])
               (.alt
                (.any [48, 49, 50, 51, 52, 53, 54, 55, 56, 57, 58, 59, 60, 4, 5] [
                 ⟨(some 53), (.callF 15 [(.tmp 51), (.tmp 52)]), none⟩, 
                 ⟨(some 60), (.load1 (.tmp 59)), none⟩, 
                 ⟨(some 54), (.buildSlice 3 2 [(.int .i64 0), (.int .i64 0)] [(0, 1, (.tmp 50)), (1, 1, (.tmp 53))]), none⟩, 
                 ⟨(some 4), (.mv (.tmp 54)), none⟩, 
                 ⟨(some 5), (.mv (.tmp 60)), none⟩])
                (.any [48, 49, 50, 51, 52, 53, 54, 55, 56, 57, 58, 59, 60, 4, 5] [
                 ⟨(some 60), (.load1 (.tmp 59)), none⟩, 
                 ⟨(some 53), (.callF 15 [(.tmp 51), (.tmp 52)]), none⟩, 
                 ⟨(some 54), (.buildSlice 3 2 [(.int .i64 0), (.int .i64 0)] [(0, 1, (.tmp 50)), (1, 1, (.tmp 53))]), none⟩, 
                 ⟨(some 4), (.mv (.tmp 54)), none⟩, 
                 ⟨(some 5), (.mv (.tmp 60)), none⟩])))))
            (.alt
             (.seq (.any [48, 49, 50, 51, 52, 53, 54, 55, 56, 57, 58, 59, 60, 4, 5] [
               ⟨(some 52), (.loadN 3 (.tmp 9)), none⟩])
              (.alt
               (.seq (.any [48, 49, 50, 51, 52, 53, 54, 55, 56, 57, 58, 59, 60, 4, 5] [
                 ⟨(some 50), (.callF 15 [(.tmp 48), (.tmp 49)]), none⟩])
                (.alt
                 (.any [48, 49, 50, 51, 52, 53, 54, 55, 56, 57, 58, 59, 60, 4, 5] [
                  ⟨(some 53), (.callF 15 [(.tmp 51), (.tmp 52)]), none⟩, 
                  ⟨(some 56), (.load1 (.tmp 55)), none⟩, 
                  ⟨(some 59), (.idxSl 1 (.tmp 56) (.tmp 58)), none⟩, 
                  ⟨(some 60), (.load1 (.tmp 59)), none⟩, 
                  ⟨(some 54), (.buildSlice 3 2 [(.int .i64 0), (.int .i64 0)] [(0, 1, (.tmp 50)), (1, 1, (.tmp 53))]), none⟩, 
                  ⟨(some 4), (.mv (.tmp 54)), none⟩, 
                  ⟨(some 5), (.mv (.tmp 60)), none⟩])
                 (.seq (.any [48, 49, 50, 51, 52, 53, 54, 55, 56, 57, 58, 59, 60, 4, 5] [
                   ⟨(some 56), (.load1 (.tmp 55)), none⟩, 
                   ⟨(some 59), (.idxSl 1 (.tmp 56) (.tmp 58)), none⟩])
                  (.alt
                   (.any [48, 49, 50, 51, 52, 53, 54, 55, 56, 57, 58, 59, 60, 4, 5] [
                    ⟨(some 53), (.callF 15 [(.tmp 51), (.tmp 52)]), none⟩, 
                    ⟨(some 60), (.load1 (.tmp 59)), none⟩, 
                    ⟨(some 54), (.buildSlice 3 2 [(.int .i64 0), (.int .i64 0)] [(0, 1, (.tmp 50)), (1, 1, (.tmp 53))]), none⟩, 
                    ⟨(some 4), (.mv (.tmp 54)), none⟩, 
                    ⟨(some 5), (.mv (.tmp 60)), none⟩])
                   (.any [48, 49, 50, 51, 52, 53, 54, 55, 56, 57, 58, 59, 60, 4, 5] [
                    ⟨(some 60), (.load1 (.tmp 59)), none⟩, 
                    ⟨(some 53), (.callF 15 [(.tmp 51), (.tmp 52)]), none⟩, 
                    ⟨(some 54), (.buildSlice 3 2 [(.int .i64 0), (.int .i64 0)] [(0, 1, (.tmp 50)), (1, 1, (.tmp 53))]), none⟩, 
                    ⟨(some 4), (.mv (.tmp 54)), none⟩, 
                    ⟨(some 5), (.mv (.tmp 60)), none⟩])))))
               (.seq (.any [48, 49, 50, 51, 52, 53, 54, 55, 56, 57, 58, 59, 60, 4, 5] [
                 ⟨(some 56), (.load1 (.tmp 55)), none⟩, 
                 ⟨(some 59), (.idxSl 1 (.tmp 56) (.tmp 58)), none⟩])
                (.alt
                 (.seq (.any [48, 49, 50, 51, 52, 53, 54, 55, 56, 57, 58, 59, 60, 4, 5] [
                   ⟨(some 50), (.callF 15 [(.tmp 48), (.tmp 49)]), none⟩])
                  (.alt
                   (.any [48, 49, 50, 51, 52, 53, 54, 55, 56, 57, 58, 59, 60, 4, 5] [
                    ⟨(some 53), (.callF 15 [(.tmp 51), (.tmp 52)]), none⟩, 
                    ⟨(some 60), (.load1 (.tmp 59)), none⟩, 
                    ⟨(some 54), (.buildSlice 3 2 [(.int .i64 0), (.int .i64 0)] [(0, 1, (.tmp 50)), (1, 1, (.tmp 53))]), none⟩, 
                    ⟨(some 4), (.mv (.tmp 54)), none⟩, 
                    ⟨(some 5), (.mv (.tmp 60)), none⟩])
                   (.any [48, 49, 50, 51, 52, 53, 54, 55, 56, 57, 58, 59, 60, 4, 5] [
                    ⟨(some 60), (.load1 (.tmp 59)), none⟩, 
                    ⟨(some 53), (.callF 15 [(.tmp 51), (.tmp 52)]), none⟩, 
                    ⟨(some 54), (.buildSlice 3 2 [(.int .i64 0), (.int .i64 0)] [(0, 1, (.tmp 50)), (1, 1, (.tmp 53))]), none⟩, 
                    ⟨(some 4), (.mv (.tmp 54)), none⟩, 
                    ⟨(some 5), (.mv (.tmp 60)), none⟩])))
                 (.any [48, 49, 50, 51, 52, 53, 54, 55, 56, 57, 58, 59, 60, 4, 5] [
                  ⟨(some 60), (.load1 (.tmp 59)), none⟩, 
                  ⟨(some 50), (.callF 15 [(.tmp 48), (.tmp 49)]), none⟩, 
                  ⟨(some 53), (.callF 15 [(.tmp 51), (.tmp 52)]), none⟩, 
                  ⟨(some 54), (.buildSlice 3 2 [(.int .i64 0), (.int .i64 0)] [(0, 1, (.tmp 50)), (1, 1, (.tmp 53))]), none⟩, 
                  ⟨(some 4), (.mv (.tmp 54)), none⟩, 
                  ⟨(some 5), (.mv (.tmp 60)), none⟩])))))
             (.seq (.any [48, 49, 50, 51, 52, 53, 54, 55, 56, 57, 58, 59, 60, 4, 5] [
               ⟨(some 56), (.load1 (.tmp 55)), none⟩, 
               ⟨(some 59), (.idxSl 1 (.tmp 56) (.tmp 58)), none⟩])
              (.alt
               (.seq (.any [48, 49, 50, 51, 52, 53, 54, 55, 56, 57, 58, 59, 60, 4, 5] [
                 ⟨(some 50), (.callF 15 [(.tmp 48), (.tmp 49)]), none⟩, 
                 ⟨(some 52), (.loadN 3 (.tmp 9)), none⟩])
                (.alt
                 (.any [48, 49, 50, 51, 52, 53, 54, 55, 56, 57, 58, 59, 60, 4, 5] [
                  ⟨(some 53), (.callF 15 [(.tmp 51), (.tmp 52)]), none⟩, 
                  ⟨(some 60), (.load1 (.tmp 59)), none⟩, 
                  ⟨(some 54), (.buildSlice 3 2 [(.int .i64 0), (.int .i64 0)] [(0, 1, (.tmp 50)), (1, 1, (.tmp 53))]), none⟩, 
                  ⟨(some 4), (.mv (.tmp 54)), none⟩, 
                  ⟨(some 5), (.mv (.tmp 60)), none⟩])
                 (.any [48, 49, 50, 51, 52, 53, 54, 55, 56, 57, 58, 59, 60, 4, 5] [
                  ⟨(some 60), (.load1 (.tmp 59)), none⟩, 
                  ⟨(some 53), (.callF 15 [(.tmp 51), (.tmp 52)]), none⟩, 
                  ⟨(some 54), (.buildSlice 3 2 [(.int .i64 0), (.int .i64 0)] [(0, 1, (.tmp 50)), (1, 1, (.tmp 53))]), none⟩, 
                  ⟨(some 4), (.mv (.tmp 54)), none⟩, 
                  ⟨(some 5), (.mv (.tmp 60)), none⟩])))
               (.alt
                (.seq (.any [48, 49, 50, 51, 52, 53, 54, 55, 56, 57, 58, 59, 60, 4, 5] [
                  ⟨(some 52), (.loadN 3 (.tmp 9)), none⟩])
                 (.alt
                  (.seq (.any [48, 49, 50, 51, 52, 53, 54, 55, 56, 57, 58, 59, 60, 4, 5] [
                    ⟨(some 50), (.callF 15 [(.tmp 48), (.tmp 49)]), none⟩])
                   (.alt
                    (.any [48, 49, 50, 51, 52, 53, 54, 55, 56, 57, 58, 59, 60, 4, 5] [
                     ⟨(some 53), (.callF 15 [(.tmp 51), (.tmp 52)]), none⟩, 
                     ⟨(some 60), (.load1 (.tmp 59)), none⟩, 
                     ⟨(some 54), (.buildSlice 3 2 [(.int .i64 0), (.int .i64 0)] [(0, 1, (.tmp 50)), (1, 1, (.tmp 53))]), none⟩, 
                     ⟨(some 4), (.mv (.tmp 54)), none⟩, 
                     ⟨(some 5), (.mv (.tmp 60)), none⟩])
                    (.any [48, 49, 50, 51, 52, 53, 54, 55, 56, 57, 58, 59, 60, 4, 5] [
                     ⟨(some 60), (.load1 (.tmp 59)), none⟩, 
                     ⟨(some 53), (.callF 15 [(.tmp 51), (.tmp 52)]), none⟩, 
                     ⟨(some 54), (.buildSlice 3 2 [(.int .i64 0), (.int .i64 0)] [(0, 1, (.tmp 50)), (1, 1, (.tmp 53))]), none⟩, 
                     ⟨(some 4), (.mv (.tmp 54)), none⟩, 
                     ⟨(some 5), (.mv (.tmp 60)), none⟩])))
                  (.any [48, 49, 50, 51, 52, 53, 54, 55, 56, 57, 58, 59, 60, 4, 5] [
                   ⟨(some 60), (.load1 (.tmp 59)), none⟩, 
                   ⟨(some 50), (.callF 15 [(.tmp 48), (.tmp 49)]), none⟩, 
                   ⟨(some 53), (.callF 15 [(.tmp 51), (.tmp 52)]), none⟩, 
                   ⟨(some 54), (.buildSlice 3 2 [(.int .i64 0), (.int .i64 0)] [(0, 1, (.tmp 50)), (1, 1, (.tmp 53))]), none⟩, 
                   ⟨(some 4), (.mv (.tmp 54)), none⟩, 
                   ⟨(some 5), (.mv (.tmp 60)), none⟩])))
                (.seq (.any [48, 49, 50, 51, 52, 53, 54, 55, 56, 57, 58, 59, 60, 4, 5] [
                  ⟨(some 60), (.load1 (.tmp 59)), none⟩])
                 (.alt
                  (.any [48, 49, 50, 51, 52, 53, 54, 55, 56, 57, 58, 59, 60, 4, 5] [
                   ⟨(some 50), (.callF 15 [(.tmp 48), (.tmp 49)]), none⟩, 
                   ⟨(some 52), (.loadN 3 (.tmp 9)), none⟩, 
                   ⟨(some 53), (.callF 15 [(.tmp 51), (.tmp 52)]), none⟩, 
                   ⟨(some 54), (.buildSlice 3 2 [(.int .i64 0), (.int .i64 0)] [(0, 1, (.tmp 50)), (1, 1, (.tmp 53))]), none⟩, 
                   ⟨(some 4), (.mv (.tmp 54)), none⟩, 
                   ⟨(some 5), (.mv (.tmp 60)), none⟩])
                  (.any [48, 49, 50, 51, 52, 53, 54, 55, 56, 57, 58, 59, 60, 4, 5] [
                   ⟨(some 52), (.loadN 3 (.tmp 9)), none⟩, 
                   ⟨(some 50), (.callF 15 [(.tmp 48), (.tmp 49)]), none⟩, 
                   ⟨(some 53), (.callF 15 [(.tmp 51), (.tmp 52)]), none⟩, 
                   ⟨(some 54), (.buildSlice 3 2 [(.int .i64 0), (.int .i64 0)] [(0, 1, (.tmp 50)), (1, 1, (.tmp 53))]), none⟩, 
                   ⟨(some 4), (.mv (.tmp 54)), none⟩, 
                   ⟨(some 5), (.mv (.tmp 60)), none⟩])))))))))
          .ret))))
      (.seq (.ops [
        ⟨(some 62), (.fieldAddr 2 (.tmp 3)), none⟩, 
        ⟨(some 63), (.load1 (.tmp 62)), none⟩, 
        ⟨(some 64), (.lenSl (.tmp 63)), none⟩, 
        ⟨(some 65), (.bin .eql (.tmp 64) (.const (.int .i64 0))), none⟩, 
        ⟨(some 66), (.mv (.tmp 65)), none⟩, 
        ⟨(some 67), (.mv (.tmp 6)), (some (66, true))⟩, 
        ⟨(some 68), (.bin .gtr (.tmp 67) (.const (.int .i64 3))), (some (66, true))⟩, 
        ⟨(some 69), (.pick (.tmp 66) (.tmp 68) (.const (.bool false))), none⟩, 
        ⟨(some 61), (.mv (.tmp 69)), none⟩])
       (.cond (.tmp 61)
        (.seq (.ops [
          ⟨(some 70), (.mv (.tmp 6)), none⟩, 
          ⟨(some 71), (.bin .quo (.tmp 70) (.const (.int .i64 2))), none⟩, 
          ⟨(some 10), (.mv (.tmp 71)), none⟩])
         (.seq (.seq (.any [72, 73, 74, 75, 76, 77, 78, 79, 80, 81, 82, 11] [
            ⟨(some 72), (.fieldAddr 0 (.tmp 3)), none⟩, 
            ⟨(some 73), (.load1 (.tmp 72)), none⟩, 
            ⟨(some 74), (.mv (.tmp 10)), none⟩, 
            ⟨(some 75), (.sliceSl 1 (.tmp 73) none (some (.tmp 74)) none), none⟩, 
            ⟨(some 77), (.fieldAddr 1 (.tmp 3)), none⟩, 
            ⟨(some 79), (.mv (.tmp 10)), none⟩])
           (.alt
            (.seq (.any [72, 73, 74, 75, 76, 77, 78, 79, 80, 81, 82, 11] [
              ⟨(some 76), (.callF 31 [(.tmp 75)]), none⟩, 
              ⟨(some 78), (.load1 (.tmp 77)), none⟩, 
              ⟨(some 80), (.sliceSl 1 (.tmp 78) none (some (.tmp 79)) none), none⟩])
             (.alt
              (.any [72, 73, 74, 75, 76, 77, 78, 79, 80, 81, 82, 11] [
               ⟨(some 81), (.callF 31 [(.tmp 80)]), none⟩, 
               ⟨(some 82), (.build [(.slice none 0 0), (.slice none 0 0), (.slice none 0 0)] [(0, 1, (.tmp 76)), (1, 1, (.tmp 81))]), none⟩, 
               ⟨(some 11), (.new 41 [(.slice none 0 0), (.slice none 0 0), (.slice none 0 0)]), none⟩, 
               ⟨none, (.storeN 3 (.tmp 11) (.tmp 82)), none⟩])
              (.any [72, 73, 74, 75, 76, 77, 78, 79, 80, 81, 82, 11] [
               ⟨(some 11), (.new 41 [(.slice none 0 0), (.slice none 0 0), (.slice none 0 0)]), none⟩, 
               ⟨(some 81), (.callF 31 [(.tmp 80)]), none⟩, 
               ⟨(some 82), (.build [(.slice none 0 0), (.slice none 0 0), (.slice none 0 0)] [(0, 1, (.tmp 76)), (1, 1, (.tmp 81))]), none⟩, 
               ⟨none, (.storeN 3 (.tmp 11) (.tmp 82)), none⟩])))
            (.alt
             (.seq (.any [72, 73, 74, 75, 76, 77, 78, 79, 80, 81, 82, 11] [
               ⟨(some 78), (.load1 (.tmp 77)), none⟩, 
               ⟨(some 80), (.sliceSl 1 (.tmp 78) none (some (.tmp 79)) none), none⟩])
              (.alt
               (.seq (.any [72, 73, 74, 75, 76, 77, 78, 79, 80, 81, 82, 11] [
                 ⟨(some 76), (.callF 31 [(.tmp 75)]), none⟩])
                (.alt
                 (.any [72, 73, 74, 75, 76, 77, 78, 79, 80, 81, 82, 11] [
                  ⟨(some 81), (.callF 31 [(.tmp 80)]), none⟩, 
                  ⟨(some 82), (.build [(.slice none 0 0), (.slice none 0 0), (.slice none 0 0)] [(0, 1, (.tmp 76)), (1, 1, (.tmp 81))]), none⟩, 
                  ⟨(some 11), (.new 41 [(.slice none 0 0), (.slice none 0 0), (.slice none 0 0)]), none⟩, 
                  ⟨none, (.storeN 3 (.tmp 11) (.tmp 82)), none⟩])
                 (.any [72, 73, 74, 75, 76, 77, 78, 79, 80, 81, 82, 11] [
                  ⟨(some 11), (.new 41 [(.slice none 0 0), (.slice none 0 0), (.slice none 0 0)]), none⟩, 
                  ⟨(some 81), (.callF 31 [(.tmp 80)]), none⟩, 
                  ⟨(some 82), (.build [(.slice none 0 0), (.slice none 0 0), (.slice none 0 0)] [(0, 1, (.tmp 76)), (1, 1, (.tmp 81))]), none⟩, 
                  ⟨none, (.storeN 3 (.tmp 11) (.tmp 82)), none⟩])))
               (.any [72, 73, 74, 75, 76, 77, 78, 79, 80, 81, 82, 11] [
                ⟨(some 11), (.new 41 [(.slice none 0 0), (.slice none 0 0), (.slice none 0 0)]), none⟩, 
                ⟨(some 76), (.callF 31 [(.tmp 75)]), none⟩, 
                ⟨(some 81), (.callF 31 [(.tmp 80)]), none⟩, 
                ⟨(some 82), (.build [(.slice none 0 0), (.slice none 0 0), (.slice none 0 0)] [(0, 1, (.tmp 76)), (1, 1, (.tmp 81))]), none⟩, 
                ⟨none, (.storeN 3 (.tmp 11) (.tmp 82)), none⟩])))
             (.seq (.any [72, 73, 74, 75, 76, 77, 78, 79, 80, 81, 82, 11] [
               ⟨(some 11), (.new 41 [(.slice none 0 0), (.slice none 0 0), (.slice none 0 0)]), none⟩])
              (.alt
               (.any [72, 73, 74, 75, 76, 77, 78, 79, 80, 81, 82, 11] [
                ⟨(some 76), (.callF 31 [(.tmp 75)]), none⟩, 
                ⟨(some 78), (.load1 (.tmp 77)), none⟩, 
                ⟨(some 80), (.sliceSl 1 (.tmp 78) none (some (.tmp 79)) none), none⟩, 
                ⟨(some 81), (.callF 31 [(.tmp 80)]), none⟩, 
                ⟨(some 82), (.build [(.slice none 0 0), (.slice none 0 0), (.slice none 0 0)] [(0, 1, (.tmp 76)), (1, 1, (.tmp 81))]), none⟩, 
                ⟨none, (.storeN 3 (.tmp 11) (.tmp 82)), none⟩])
               (.any [72, 73, 74, 75, 76, 77, 78, 79, 80, 81, 82, 11] [
                ⟨(some 78), (.load1 (.tmp 77)), none⟩, 
                ⟨(some 80), (.sliceSl 1 (.tmp 78) none (some (.tmp 79)) none), none⟩, 
                ⟨(some 76), (.callF 31 [(.tmp 75)]), none⟩, 
                ⟨(some 81), (.callF 31 [(.tmp 80)]), none⟩, 
                ⟨(some 82), (.build [(.slice none 0 0), (.slice none 0 0), (.slice none 0 0)] [(0, 1, (.tmp 76)), (1, 1, (.tmp 81))]), none⟩, 
                ⟨none, (.storeN 3 (.tmp 11) (.tmp 82)), none⟩]))))))
          (.seq (.seq (.any [83, 84, 85, 86, 87, 88, 89, 90, 91, 92, 93, 12] [
             ⟨(some 83), (.fieldAddr 0 (.tmp 3)), none⟩, 
             ⟨(some 84), (.load1 (.tmp 83)), none⟩, 
             ⟨(some 85), (.mv (.tmp 10)), none⟩, 
             ⟨(some 86), (.sliceSl 1 (.tmp 84) (some (.tmp 85)) none none), none⟩, 
             ⟨(some 88), (.fieldAddr 1 (.tmp 3)), none⟩, 
             ⟨(some 90), (.mv (.tmp 10)), none⟩])
            (.alt
             (.seq (.any [83, 84, 85, 86, 87, 88, 89, 90, 91, 92, 93, 12] [
               ⟨(some 87), (.callF 31 [(.tmp 86)]), none⟩, 
               ⟨(some 89), (.load1 (.tmp 88)), none⟩, 
               ⟨(some 91), (.sliceSl 1 (.tmp 89) (some (.tmp 90)) none none), none⟩])
              (.alt
               (.any [83, 84, 85, 86, 87, 88, 89, 90, 91, 92, 93, 12] [
                ⟨(some 92), (.callF 31 [(.tmp 91)]), none⟩, 
                ⟨(some 93), (.build [(.slice none 0 0), (.slice none 0 0), (.slice none 0 0)] [(0, 1, (.tmp 87)), (1, 1, (.tmp 92))]), none⟩, 
                ⟨(some 12), (.new 41 [(.slice none 0 0), (.slice none 0 0), (.slice none 0 0)]), none⟩, 
                ⟨none, (.storeN 3 (.tmp 12) (.tmp 93)), none⟩])
               (.any [83, 84, 85, 86, 87, 88, 89, 90, 91, 92, 93, 12] [
                ⟨(some 12), (.new 41 [(.slice none 0 0), (.slice none 0 0), (.slice none 0 0)]), none⟩, 
                ⟨(some 92), (.callF 31 [(.tmp 91)]), none⟩, 
                ⟨(some 93), (.build [(.slice none 0 0), (.slice none 0 0), (.slice none 0 0)] [(0, 1, (.tmp 87)), (1, 1, (.tmp 92))]), none⟩, 
                ⟨none, (.storeN 3 (.tmp 12) (.tmp 93)), none⟩])))
             (.alt
              (.seq (.any [83, 84, 85, 86, 87, 88, 89, 90, 91, 92, 93, 12] [
                ⟨(some 89), (.load1 (.tmp 88)), none⟩, 
                ⟨(some 91), (.sliceSl 1 (.tmp 89) (some (.tmp 90)) none none), none⟩])
               (.alt
                (.seq (.any [83, 84, 85, 86, 87, 88, 89, 90, 91, 92, 93, 12] [
                  ⟨(some 87), (.callF 31 [(.tmp 86)]), none⟩])
                 (.alt
                  (.any [83, 84, 85, 86, 87, 88, 89, 90, 91, 92, 93, 12] [
                   ⟨(some 92), (.callF 31 [(.tmp 91)]), none⟩, 
                   ⟨(some 93), (.build [(.slice none 0 0), (.slice none 0 0), (.slice none 0 0)] [(0, 1, (.tmp 87)), (1, 1, (.tmp 92))]), none⟩, 
                   ⟨(some 12), (.new 41 [(.slice none 0 0), (.slice none 0 0), (.slice none 0 0)]), none⟩, 
                   ⟨none, (.storeN 3 (.tmp 12) (.tmp 93)), none⟩])
                  (.any [83, 84, 85, 86, 87, 88, 89, 90, 91, 92, 93, 12] [
                   ⟨(some 12), (.new 41 [(.slice none 0 0), (.slice none 0 0), (.slice none 0 0)]), none⟩, 
                   ⟨(some 92), (.callF 31 [(.tmp 91)]), none⟩, 
                   ⟨(some 93), (.build [(.slice none 0 0), (.slice none 0 0), (.slice none 0 0)] [(0, 1, (.tmp 87)), (1, 1, (.tmp 92))]), none⟩, 
                   ⟨none, (.storeN 3 (.tmp 12) (.tmp 93)), none⟩])))
                (.any [83, 84, 85, 86, 87, 88, 89, 90, 91, 92, 93, 12] [
                 ⟨(some 12), (.new 41 [(.slice none 0 0), (.slice none 0 0), (.slice none 0 0)]), none⟩, 
                 ⟨(some 87), (.callF 31 [(.tmp 86)]), none⟩, 
                 ⟨(some 92), (.callF 31 [(.tmp 91)]), none⟩, 
                 ⟨(some 93), (.build [(.slice none 0 0), (.slice none 0 0), (.slice none 0 0)] [(0, 1, (.tmp 87)), (1, 1, (.tmp 92))]), none⟩, 
                 ⟨none, (.storeN 3 (.tmp 12) (.tmp 93)), none⟩])))
              (.seq (.any [83, 84, 85, 86, 87, 88, 89, 90, 91, 92, 93, 12] [
                ⟨(some 12), (.new 41 [(.slice none 0 0), (.slice none 0 0), (.slice none 0 0)]), none⟩])
               (.alt
                (.any [83, 84, 85, 86, 87, 88, 89, 90, 91, 92, 93, 12] [
                 ⟨(some 87), (.callF 31 [(.tmp 86)]), none⟩, 
                 ⟨(some 89), (.load1 (.tmp 88)), none⟩, 
                 ⟨(some 91), (.sliceSl 1 (.tmp 89) (some (.tmp 90)) none none), none⟩, 
                 ⟨(some 92), (.callF 31 [(.tmp 91)]), none⟩, 
                 ⟨(some 93), (.build [(.slice none 0 0), (.slice none 0 0), (.slice none 0 0)] [(0, 1, (.tmp 87)), (1, 1, (.tmp 92))]), none⟩, 
                 ⟨none, (.storeN 3 (.tmp 12) (.tmp 93)), none⟩])
                (.any [83, 84, 85, 86, 87, 88, 89, 90, 91, 92, 93, 12] [
                 ⟨(some 89), (.load1 (.tmp 88)), none⟩, 
                 ⟨(some 91), (.sliceSl 1 (.tmp 89) (some (.tmp 90)) none none), none⟩, 
                 ⟨(some 87), (.callF 31 [(.tmp 86)]), none⟩, 
                 ⟨(some 92), (.callF 31 [(.tmp 91)]), none⟩, 
                 ⟨(some 93), (.build [(.slice none 0 0), (.slice none 0 0), (.slice none 0 0)] [(0, 1, (.tmp 87)), (1, 1, (.tmp 92))]), none⟩, 
                 ⟨none, (.storeN 3 (.tmp 12) (.tmp 93)), none⟩]))))))
           (.seq (.seq (.any [94, 95, 96, 97, 98, 99, 100, 101, 102, 103, 104, 105, 4, 5] [
              ⟨(some 94), (.mv (.tmp 0)), none⟩, 
              ⟨(some 95), (.loadN 3 (.tmp 11)), none⟩, 
              ⟨(some 97), (.mv (.tmp 0)), none⟩, 
              ⟨(some 101), (.fieldAddr 0 (.tmp 3)), none⟩, 
              ⟨(some 103), (.mv (.tmp 10)), none⟩])
             (.alt
              (.seq (.any [94, 95, 96, 97, 98, 99, 100, 101, 102, 103, 104, 105, 4, 5] [
                ⟨(some 96), (.callF 15 [(.tmp 94), (.tmp 95)]), none⟩, 
                ⟨(some 98), (.loadN 3 (.tmp 12)), none⟩])
               (.alt
                (.any [94, 95, 96, 97, 98, 99, 100, 101, 102, 103, 104, 105, 4, 5] [
                 ⟨(some 99), (.callF 15 [(.tmp 97), (.tmp 98)]), none⟩, 
                 ⟨(some 102), (.load1 (.tmp 101)), none⟩, 
                 ⟨(some 104), (.idxSl 1 (.tmp 102) (.tmp 103)), none⟩, 
                 ⟨(some 105), (.load1 (.tmp 104)), none⟩, 
                 ⟨(some 100), (.buildSlice 3 2 [(.int .i64 0), (.int .i64 0)] [(0, 1, (.tmp 96)), (1, 1, (.tmp 99))]), none⟩, 
                 ⟨(some 4), (.mv (.tmp 100)), none⟩, 
                 ⟨(some 5), (.mv (.tmp 105)), none⟩])
                (.seq (.any [94, 95, 96, 97, 98, 99, 100, 101, 102, 103, 104, 105, 4, 5] [
                  ⟨(some 102), (.load1 (.tmp 101)), none⟩, 
                  ⟨(some 104), (.idxSl 1 (.tmp 102) (.tmp 103)), none⟩])
                 (.alt
                  (.any [94, 95, 96, 97, 98, 99, 100, 101, 102, 103, 104, 105, 4, 5] [
                   ⟨(some 99), (.callF 15 [(.tmp 97), (.tmp 98)]), none⟩, 
                   ⟨(some 105), (.load1 (.tmp 104)), none⟩, 
                   ⟨(some 100), (.buildSlice 3 2 [(.int .i64 0), (.int .i64 0)] [(0, 1, (.tmp 96)), (1, 1, (.tmp 99))]), none⟩, 
                   ⟨(some 4), (.mv (.tmp 100)), none⟩, 
                   ⟨(some 5), (.mv (.tmp 105)), none⟩])
                  (.any [94, 95, 96, 97, 98, 99, 100, 101, 102, 103, 104, 105, 4, 5] [
                   ⟨(some 105), (.load1 (.tmp 104)), none⟩, 
                   ⟨(some 99), (.callF 15 [(.tmp 97), (.tmp 98)]), none⟩, 
                   ⟨(some 100), (.buildSlice 3 2 [(.int .i64 0), (.int .i64 0)] [(0, 1, (.tmp 96)), (1, 1, (.tmp 99))]), none⟩, 
                   ⟨(some 4), (.mv (.tmp 100)), none⟩, 
                   ⟨(some 5), (.mv (.tmp 105)), none⟩])))))
              (.alt
               (.seq (.any [94, 95, 96, 97, 98, 99, 100, 101, 102, 103, 104, 105, 4, 5] [
                 ⟨(some 98), (.loadN 3 (.tmp 12)), none⟩])
                (.alt
                 (.seq (.any [94, 95, 96, 97, 98, 99, 100, 101, 102, 103, 104, 105, 4, 5] [
                   ⟨(some 96), (.callF 15 [(.tmp 94), (.tmp 95)]), none⟩])
                  (.alt
                   (.any [94, 95, 96, 97, 98, 99, 100, 101, 102, 103, 104, 105, 4, 5] [
                    ⟨(some 99), (.callF 15 [(.tmp 97), (.tmp 98)]), none⟩, 
                    ⟨(some 102), (.load1 (.tmp 101)), none⟩, 
                    ⟨(some 104), (.idxSl 1 (.tmp 102) (.tmp 103)), none⟩, 
                    ⟨(some 105), (.load1 (.tmp 104)), none⟩, 
                    ⟨(some 100), (.buildSlice 3 2 [(.int .i64 0), (.int .i64 0)] [(0, 1, (.tmp 96)), (1, 1, (.tmp 99))]), none⟩, 
                    ⟨(some 4), (.mv (.tmp 100)), none⟩, 
                    ⟨(some 5), (.mv (.tmp 105)), none⟩])
                   (.seq (.any [94, 95, 96, 97, 98, 99, 100, 101, 102, 103, 104, 105, 4, 5] [
                     ⟨(some 102), (.load1 (.tmp 101)), none⟩, 
                     ⟨(some 104), (.idxSl 1 (.tmp 102) (.tmp 103)), none⟩])
                    (.alt
                     (.any [94, 95, 96, 97, 98, 99, 100, 101, 102, 103, 104, 105, 4, 5] [
                      ⟨(some 99), (.callF 15 [(.tmp 97), (.tmp 98)]), none⟩, 
                      ⟨(some 105), (.load1 (.tmp 104)), none⟩, 
                      ⟨(some 100), (.buildSlice 3 2 [(.int .i64 0), (.int .i64 0)] [(0, 1, (.tmp 96)), (1, 1, (.tmp 99))]), none⟩, 
                      ⟨(some 4), (.mv (.tmp 100)), none⟩, 
                      ⟨(some 5), (.mv (.tmp 105)), none⟩])
                     (.any [94, 95, 96, 97, 98, 99, 100, 101, 102, 103, 104, 105, 4, 5] [
                      ⟨(some 105), (.load1 (.tmp 104)), none⟩, 
                      ⟨(some 99), (.callF 15 [(.tmp 97), (.tmp 98)]), none⟩, 
                      ⟨(some 100), (.buildSlice 3 2 [(.int .i64 0), (.int .i64 0)] [(0, 1, (.tmp 96)), (1, 1, (.tmp 99))]), none⟩, 
                      ⟨(some 4), (.mv (.tmp 100)), none⟩, 
                      ⟨(some 5), (.mv (.tmp 105)), none⟩])))))
                 (.seq (.any [94, 95, 96, 97, 98, 99, 100, 101, 102, 103, 104, 105, 4, 5] [
                   ⟨(some 102), (.load1 (.tmp 101)), none⟩, 
                   ⟨(some 104), (.idxSl 1 (.tmp 102) (.tmp 103)), none⟩])
                  (.alt
                   (.seq (.any [94, 95, 96, 97, 98, 99, 100, 101, 102, 103, 104, 105, 4, 5] [
                     ⟨(some 96), (.callF 15 [(.tmp 94), (.tmp 95)]), none⟩])
                    (.alt
                     (.any [94, 95, 96, 97, 98, 99, 100, 101, 102, 103, 104, 105, 4, 5] [
                      ⟨(some 99), (.callF 15 [(.tmp 97), (.tmp 98)]), none⟩, 
                      ⟨(some 105), (.load1 (.tmp 104)), none⟩, 
                      ⟨(some 100), (.buildSlice 3 2 [(.int .i64 0), (.int .i64 0)] [(0, 1, (.tmp 96)), (1, 1, (.tmp 99))]), none⟩, 
                      ⟨(some 4), (.mv (.tmp 100)), none⟩, 
                      ⟨(some 5), (.mv (.tmp 105)), none⟩])
                     (.any [94, 95, 96, 97, 98, 99, 100, 101, 102, 103, 104, 105, 4, 5] [
                      ⟨(some 105), (.load1 (.tmp 104)), none⟩, 
                      ⟨(some 99), (.callF 15 [(.tmp 97), (.tmp 98)]), none⟩, 
                      ⟨(some 100), (.buildSlice 3 2 [(.int .i64 0), (.int .i64 0)] [(0, 1, (.tmp 96)), (1, 1, (.tmp 99))]), none⟩, 
                      ⟨(some 4), (.mv (.tmp 100)), none⟩, 
                      ⟨(some 5), (.mv (.tmp 105)), none⟩])))
                   (.any [94, 95, 96, 97, 98, 99, 100, 101, 102, 103, 104, 105, 4, 5] [
                    ⟨(some 105), (.load1 (.tmp 104)), none⟩, 
                    ⟨(some 96), (.callF 15 [(.tmp 94), (.tmp 95)]), none⟩, 
                    ⟨(some 99), (.callF 15 [(.tmp 97), (.tmp 98)]), none⟩, 
                    ⟨(some 100), (.buildSlice 3 2 [(.int .i64 0), (.int .i64 0)] [(0, 1, (.tmp 96)), (1, 1, (.tmp 99))]), none⟩, 
                    ⟨(some 4), (.mv (.tmp 100)), none⟩, 
                    ⟨(some 5), (.mv (.tmp 105)), none⟩])))))
               (.seq (.any [94, 95, 96, 97, 98, 99, 100, 101, 102, 103, 104, 105, 4, 5] [
                 ⟨(some 102), (.load1 (.tmp 101)), none⟩, 
                 ⟨(some 104), (.idxSl 1 (.tmp 102) (.tmp 103)), none⟩])
                (.alt
                 (.seq (.any [94, 95, 96, 97, 98, 99, 100, 101, 102, 103, 104, 105, 4, 5] [
                   ⟨(some 96), (.callF 15 [(.tmp 94), (.tmp 95)]), none⟩, 
                   ⟨(some 98), (.loadN 3 (.tmp 12)), none⟩])
                  (.alt
                   (.any [94, 95, 96, 97, 98, 99, 100, 101, 102, 103, 104, 105, 4, 5] [
                    ⟨(some 99), (.callF 15 [(.tmp 97), (.tmp 98)]), none⟩, 
                    ⟨(some 105), (.load1 (.tmp 104)), none⟩, 
                    ⟨(some 100), (.buildSlice 3 2 [(.int .i64 0), (.int .i64 0)] [(0, 1, (.tmp 96)), (1, 1, (.tmp 99))]), none⟩, 
                    ⟨(some 4), (.mv (.tmp 100)), none⟩, 
                    ⟨(some 5), (.mv (.tmp 105)), none⟩])
                   (.any [94, 95, 96, 97, 98, 99, 100, 101, 102, 103, 104, 105, 4, 5] [
                    ⟨(some 105), (.load1 (.tmp 104)), none⟩, 
                    ⟨(some 99), (.callF 15 [(.tmp 97), (.tmp 98)]), none⟩, 
                    ⟨(some 100), (.buildSlice 3 2 [(.int .i64 0), (.int .i64 0)] [(0, 1, (.tmp 96)), (1, 1, (.tmp 99))]), none⟩, 
                    ⟨(some 4), (.mv (.tmp 100)), none⟩, 
                    ⟨(some 5), (.mv (.tmp 105)), none⟩])))
                 (.alt
                  (.seq (.any [94, 95, 96, 97, 98, 99, 100, 101, 102, 103, 104, 105, 4, 5] [
                    ⟨(some 98), (.loadN 3 (.tmp 12)), none⟩])
                   (.alt
                    (.seq (.any [94, 95, 96, 97, 98, 99, 100, 101, 102, 103, 104, 105, 4, 5] [
                      ⟨(some 96), (.callF 15 [(.tmp 94), (.tmp 95)]), none⟩])
                     (.alt
                      (.any [94, 95, 96, 97, 98, 99, 100, 101, 102, 103, 104, 105, 4, 5] [
                       ⟨(some 99), (.callF 15 [(.tmp 97), (.tmp 98)]), none⟩, 
                       ⟨(some 105), (.load1 (.tmp 104)), none⟩, 
                       ⟨(some 100), (.buildSlice 3 2 [(.int .i64 0), (.int .i64 0)] [(0, 1, (.tmp 96)), (1, 1, (.tmp 99))]), none⟩, 
                       ⟨(some 4), (.mv (.tmp 100)), none⟩, 
                       ⟨(some 5), (.mv (.tmp 105)), none⟩])
                      (.any [94, 95, 96, 97, 98, 99, 100, 101, 102, 103, 104, 105, 4, 5] [
                       ⟨(some 105), (.load1 (.tmp 104)), none⟩, 
                       ⟨(some 99), (.callF 15 [(.tmp 97), (.tmp 98)]), none⟩, 
                       ⟨(some 100), (.buildSlice 3 2 [(.int .i64 0), (.int .i64 0)] [(0, 1, (.tmp 96)), (1, 1, (.tmp 99))]), none⟩, 
                       ⟨(some 4), (.mv (.tmp 100)), none⟩, 
                       ⟨(some 5), (.mv (.tmp 105)), none⟩])))
                    (.any [94, 95, 96, 97, 98, 99, 100, 101, 102, 103, 104, 105, 4, 5] [
                     ⟨(some 105), (.load1 (.tmp 104)), none⟩, 
                     ⟨(some 96), (.callF 15 [(.tmp 94), (.tmp 95)]), none⟩, 
                     ⟨(some 99), (.callF 15 [(.tmp 97), (.tmp 98)]), none⟩, 
                     ⟨(some 100), (.buildSlice 3 2 [(.int .i64 0), (.int .i64 0)] [(0, 1, (.tmp 96)), (1, 1, (.tmp 99))]), none⟩, 
                     ⟨(some 4), (.mv (.tmp 100)), none⟩, 
                     ⟨(some 5), (.mv (.tmp 105)), none⟩])))
                  (.seq (.any [94, 95, 96, 97, 98, 99, 100, 101, 102, 103, 104, 105, 4, 5] [
                    ⟨(some 105), (.load1 (.tmp 104)), none⟩])
                   (.alt
                    (.any [94, 95, 96, 97, 98, 99, 100, 101, 102, 103, 104, 105, 4, 5] [
                     ⟨(some 96), (.callF 15 [(.tmp 94), (.tmp 95)]), none⟩, 
                     ⟨(some 98), (.loadN 3 (.tmp 12)), none⟩, 
                     ⟨(some 99), (.callF 15 [(.tmp 97), (.tmp 98)]), none⟩, 
                     ⟨(some 100), (.buildSlice 3 2 [(.int .i64 0), (.int .i64 0)] [(0, 1, (.tmp 96)), (1, 1, (.tmp 99))]), none⟩, 
                     ⟨(some 4), (.mv (.tmp 100)), none⟩, 
                     ⟨(some 5), (.mv (.tmp 105)), none⟩])
                    (.any [94, 95, 96, 97, 98, 99, 100, 101, 102, 103, 104, 105, 4, 5] [
                     ⟨(some 98), (.loadN 3 (.tmp 12)), none⟩, 
                     ⟨(some 96), (.callF 15 [(.tmp 94), (.tmp 95)]), none⟩, 
                     ⟨(some 99), (.callF 15 [(.tmp 97), (.tmp 98)]), none⟩, 
                     ⟨(some 100), (.buildSlice 3 2 [(.int .i64 0), (.int .i64 0)] [(0, 1, (.tmp 96)), (1, 1, (.tmp 99))]), none⟩, 
                     ⟨(some 4), (.mv (.tmp 100)), none⟩, 
                     ⟨(some 5), (.mv (.tmp 105)), none⟩])))))))))
            .ret))))
        .skip)))))
   (.seq (.ops [
     ⟨(some 106), (.mv (.tmp 0)), none⟩, 
     ⟨(some 107), (.loadN 3 (.tmp 3)), none⟩, 
     ⟨(some 108), (.callF 15 [(.tmp 106), (.tmp 107)]), none⟩, 
     ⟨(some 109), (.buildSlice 3 1 [(.int .i64 0)] [(0, 1, (.tmp 108))]), none⟩, 
     ⟨(some 4), (.mv (.tmp 109)), none⟩, 
     ⟨(some 5), (.mv (.const (.string ⟨#[]⟩))), none⟩])
    .ret))))
theorem c25 {args : Array Value} {h : Heap} {R : Ending → Heap → Prop} (ha : args.size ≤ 110) (hh : aexec Try.prog ac25 (abody [(.slot 4), (.slot 5)] R) ⟨initFr args.toList, []⟩ h) : HCalls Try.prog 25 args h R :=
  hcalls_of Try.func25 rfl rfl (by kernel_rfl) (by kernel_rfl) ha hh
/-- 26: credenza/node.Child -/
def ac26 : ACode :=
 (.seq (.ops [
  ⟨(some 2), (.box 41 (.tmp 0)), none⟩, 
  ⟨(some 3), (.box 9 (.tmp 1)), none⟩, 
  ⟨(some 4), (.mv (.const (.int .i64 0))), none⟩])
 (.seq (.seq (.ops [
    ⟨(some 8), (.fieldAddr 0 (.tmp 2)), none⟩, 
    ⟨(some 9), (.load1 (.tmp 8)), none⟩, 
    ⟨(some 10), (.callF 37 [(.tmp 9)]), none⟩])
   (.cond (.tmp 10)
    (.seq (.ops [
      ⟨(some 11), (.fieldAddr 0 (.tmp 2)), none⟩, 
      ⟨(some 12), (.load1 (.tmp 11)), none⟩, 
      ⟨(some 13), (.lenSl (.tmp 12)), none⟩, 
      ⟨(some 14), (.mkFunc (.func 39) [] [(.tmp 2), (.tmp 3)]), none⟩, 
      ⟨(some 15), (.callF 38 [(.tmp 13), (.tmp 14)]), none⟩, 
      ⟨(some 4), (.mv (.tmp 15)), none⟩])
     .ret)
    .skip))
  (.seq (.ops [
    ⟨(some 5), (.mv (.const (.int .i64 0))), none⟩])
   (.seq (.seq (.ops [
      ⟨(some 16), (.fieldAddr 0 (.tmp 2)), none⟩, 
      ⟨(some 17), (.load1 (.tmp 16)), none⟩, 
      ⟨(some 18), (.lenSl (.tmp 17)), none⟩, 
      ⟨(some 19), (.mv (.const (.int .i64 0))), none⟩])
     (.block 0
      (.loop
       (.seq (.ops [
         ⟨(some 20), (.bin .lss (.tmp 19) (.tmp 18)), none⟩])
        (.seq (.cond (.tmp 20)
          .skip
          (.exit 0))
         (.seq (.block 1
           (.seq (.ops [
             ⟨(some 21), (.idxSl 1 (.tmp 17) (.tmp 19)), none⟩, 
             ⟨(some 22), (.load1 (.tmp 21)), none⟩, 
             ⟨(some 7), (.mv (.tmp 22)), none⟩])
            (.seq (.ops [
              ⟨(some 23), (.mv (.tmp 7)), none⟩, 
              ⟨(some 24), (.load1 (.tmp 3)), none⟩, 
              ⟨(some 25), (.bin .leq (.tmp 23) (.tmp 24)), none⟩])
             (.cond (.tmp 25)
              (.ops [
               ⟨(some 26), (.mv (.tmp 5)), none⟩, 
               ⟨(some 27), (.bin .add (.tmp 26) (.const (.int .i64 1))), none⟩, 
               ⟨(some 5), (.mv (.tmp 27)), none⟩])
              .skip))))
          (.ops [
           ⟨(some 28), (.bin .add (.tmp 19) (.const (.int .i64 1))), none⟩, 
           ⟨(some 19), (.mv (.tmp 28)), none⟩])))))))
    (.seq (.ops [
      ⟨(some 29), (.mv (.tmp 5)), none⟩, 
      ⟨(some 4), (.mv (.tmp 29)), none⟩])
     .ret)))))
theorem c26 {args : Array Value} {h : Heap} {R : Ending → Heap → Prop} (ha : args.size ≤ 30) (hh : aexec Try.prog ac26 (abody [(.slot 4)] R) ⟨initFr args.toList, []⟩ h) : HCalls Try.prog 26 args h R :=
  hcalls_of Try.func26 rfl rfl (by kernel_rfl) (by kernel_rfl) ha hh
/-- 27: slices.Replace[[]int,int] -/
def ac27 : ACode :=
 (.seq (.ops [
  ⟨(some 8), (.mv (.const (.slice none 0 0))), none⟩])
 (.seq (.ops [
   ⟨(some 15), (.mv (.tmp 0)), none⟩, 
   ⟨(some 16), (.mv (.tmp 1)), none⟩, 
   ⟨(some 17), (.mv (.tmp 2)), none⟩, 
   ⟨(some 18), (.sliceSl 1 (.tmp 15) (some (.tmp 16)) (some (.tmp 17)) none), none⟩])
  (.seq (.seq (.ops [
     ⟨(some 19), (.mv (.tmp 1)), none⟩, 
     ⟨(some 20), (.mv (.tmp 2)), none⟩, 
     ⟨(some 21), (.bin .eql (.tmp 19) (.tmp 20)), none⟩])
    (.cond (.tmp 21)
     (.seq (.ops [
       ⟨(some 22), (.mv (.tmp 0)), none⟩, 
       ⟨(some 23), (.mv (.tmp 1)), none⟩, 
       ⟨(some 24), (.mv (.tmp 3)), none⟩, 
       ⟨(some 25), (.callF 40 [(.tmp 22), (.tmp 23), (.tmp 24)]), none⟩, 
       ⟨(some 8), (.mv (.tmp 25)), none⟩])
      .ret)
     .skip))
   (.seq (.seq (.ops [
      ⟨(some 26), (.mv (.tmp 2)), none⟩, 
      ⟨(some 27), (.mv (.tmp 0)), none⟩, 
      ⟨(some 28), (.lenSl (.tmp 27)), none⟩, 
      ⟨(some 29), (.bin .eql (.tmp 26) (.tmp 28)), none⟩])
     (.cond (.tmp 29)
      (.seq (.ops [
        ⟨(some 30), (.mv (.tmp 0)), none⟩, 
        ⟨(some 31), (.mv (.tmp 1)), none⟩, 
        ⟨(some 32), (.sliceSl 1 (.tmp 30) none (some (.tmp 31)) none), none⟩, 
        ⟨(some 33), (.mv (.tmp 3)), none⟩, 
        ⟨(some 34), (.append 3 1 8 [(.int .i64 0)] (.tmp 32) (.tmp 33)), none⟩, 
        ⟨(some 9), (.mv (.tmp 34)), none⟩])
       (.seq (.seq (.ops [
          ⟨(some 35), (.mv (.tmp 9)), none⟩, 
          ⟨(some 36), (.lenSl (.tmp 35)), none⟩, 
          ⟨(some 37), (.mv (.tmp 0)), none⟩, 
          ⟨(some 38), (.lenSl (.tmp 37)), none⟩, 
          ⟨(some 39), (.bin .lss (.tmp 36) (.tmp 38)), none⟩])
         (.cond (.tmp 39)
          (.ops [
           ⟨(some 40), (.mv (.tmp 0)), none⟩, 
           ⟨(some 41), (.mv (.tmp 9)), none⟩, 
           ⟨(some 42), (.lenSl (.tmp 41)), none⟩, 
           ⟨(some 43), (.sliceSl 1 (.tmp 40) (some (.tmp 42)) none none), none⟩, 
           ⟨none, (.raw ⟨none, (.call ⟨(.builtin .clear), #[(.tmp 43)], #[39]⟩), 0, "slices.go:271", #[⟨3, .data⟩], none⟩), none⟩])
          .skip))
        (.seq (.ops [
          ⟨(some 44), (.mv (.tmp 9)), none⟩, 
          ⟨(some 8), (.mv (.tmp 44)), none⟩])
         .ret)))
      .skip))
    (.seq (.any [45, 46, 47, 48, 49, 50, 51, 52, 53, 54, 55, 56, 10] [
      ⟨(some 45), (.mv (.tmp 0)), none⟩, 
      ⟨(some 46), (.mv (.tmp 1)), none⟩, 
      ⟨(some 47), (.sliceSl 1 (.tmp 45) none (some (.tmp 46)) none), none⟩, 
      ⟨(some 48), (.lenSl (.tmp 47)), none⟩, 
      ⟨(some 49), (.mv (.tmp 3)), none⟩, 
      ⟨(some 50), (.lenSl (.tmp 49)), none⟩, 
      ⟨(some 51), (.bin .add (.tmp 48) (.tmp 50)), none⟩, 
      ⟨(some 52), (.mv (.tmp 0)), none⟩, 
      ⟨(some 53), (.mv (.tmp 2)), none⟩, 
      ⟨(some 54), (.sliceSl 1 (.tmp 52) (some (.tmp 53)) none none), none⟩, 
      ⟨(some 55), (.lenSl (.tmp 54)), none⟩, 
      ⟨(some 56), (.bin .add (.tmp 51) (.tmp 55)), none⟩, 
      ⟨(some 10), (.mv (.tmp 56)), none⟩])
     (.seq (.seq (.ops [
        ⟨(some 57), (.mv (.tmp 10)), none⟩, 
        ⟨(some 58), (.mv (.tmp 0)), none⟩, 
        ⟨(some 59), (.raw ⟨(some 59), (.call ⟨(.builtin .cap), #[(.tmp 58)], #[39]⟩), 3, "slices.go:277", #[⟨1, .data⟩], none⟩), none⟩, 
        ⟨(some 60), (.bin .gtr (.tmp 57) (.tmp 59)), none⟩])
       (.cond (.tmp 60)
        (.seq (.ops [
          ⟨(some 61), (.mv (.tmp 0)), none⟩, 
          ⟨(some 62), (.mv (.tmp 1)), none⟩, 
          ⟨(some 63), (.sliceSl 1 (.tmp 61) none (some (.tmp 62)) none), none⟩, 
          ⟨(some 64), (.mv (.tmp 10)), none⟩, 
          ⟨(some 65), (.mv (.tmp 1)), none⟩, 
          ⟨(some 66), (.bin .sub (.tmp 64) (.tmp 65)), none⟩, 
          ⟨(some 67), (.appendZ 3 1 8 [(.int .i64 0)] (.tmp 63) (.tmp 66)), none⟩, 
          ⟨(some 11), (.mv (.tmp 67)), none⟩])
         (.seq (.ops [
           ⟨(some 68), (.mv (.tmp 11)), none⟩, 
           ⟨(some 69), (.mv (.tmp 1)), none⟩, 
           ⟨(some 70), (.sliceSl 1 (.tmp 68) (some (.tmp 69)) none none), none⟩, 
           ⟨(some 71), (.mv (.tmp 3)), none⟩, 
           ⟨(some 72), (.copy 1 (.tmp 70) (.tmp 71)), none⟩])
          (.seq (.any [73, 74, 75, 76, 77, 78, 79, 80, 81, 82] [
            ⟨(some 73), (.mv (.tmp 11)), none⟩, 
            ⟨(some 74), (.mv (.tmp 1)), none⟩, 
            ⟨(some 75), (.mv (.tmp 3)), none⟩, 
            ⟨(some 76), (.lenSl (.tmp 75)), none⟩, 
            ⟨(some 77), (.bin .add (.tmp 74) (.tmp 76)), none⟩, 
            ⟨(some 78), (.sliceSl 1 (.tmp 73) (some (.tmp 77)) none none), none⟩, 
            ⟨(some 79), (.mv (.tmp 0)), none⟩, 
            ⟨(some 80), (.mv (.tmp 2)), none⟩, 
            ⟨(some 81), (.sliceSl 1 (.tmp 79) (some (.tmp 80)) none none), none⟩, 
            ⟨(some 82), (.copy 1 (.tmp 78) (.tmp 81)), none⟩])
           (.seq (.ops [
             ⟨(some 83), (.mv (.tmp 11)), none⟩, 
             ⟨(some 8), (.mv (.tmp 83)), none⟩])
            .ret))))
        .skip))
      (.seq (.ops [
        ⟨(some 84), (.mv (.tmp 0)), none⟩, 
        ⟨(some 85), (.mv (.tmp 10)), none⟩, 
        ⟨(some 86), (.sliceSl 1 (.tmp 84) none (some (.tmp 85)) none), none⟩, 
        ⟨(some 12), (.mv (.tmp 86)), none⟩])
       (.seq (.seq (.ops [
          ⟨(some 87), (.mv (.tmp 1)), none⟩, 
          ⟨(some 88), (.mv (.tmp 3)), none⟩, 
          ⟨(some 89), (.lenSl (.tmp 88)), none⟩, 
          ⟨(some 90), (.bin .add (.tmp 87) (.tmp 89)), none⟩, 
          ⟨(some 91), (.mv (.tmp 2)), none⟩, 
          ⟨(some 92), (.bin .leq (.tmp 90) (.tmp 91)), none⟩])
         (.cond (.tmp 92)
          (.seq (.ops [
            ⟨(some 93), (.mv (.tmp 12)), none⟩, 
            ⟨(some 94), (.mv (.tmp 1)), none⟩, 
            ⟨(some 95), (.sliceSl 1 (.tmp 93) (some (.tmp 94)) none none), none⟩, 
            ⟨(some 96), (.mv (.tmp 3)), none⟩, 
            ⟨(some 97), (.copy 1 (.tmp 95) (.tmp 96)), none⟩])
           (.seq (.any [98, 99, 100, 101, 102, 103, 104, 105, 106, 107] [
             ⟨(some 98), (.mv (.tmp 12)), none⟩, 
             ⟨(some 99), (.mv (.tmp 1)), none⟩, 
             ⟨(some 100), (.mv (.tmp 3)), none⟩, 
             ⟨(some 101), (.lenSl (.tmp 100)), none⟩, 
             ⟨(some 102), (.bin .add (.tmp 99) (.tmp 101)), none⟩, 
             ⟨(some 103), (.sliceSl 1 (.tmp 98) (some (.tmp 102)) none none), none⟩, 
             ⟨(some 104), (.mv (.tmp 0)), none⟩, 
             ⟨(some 105), (.mv (.tmp 2)), none⟩, 
             ⟨(some 106), (.sliceSl 1 (.tmp 104) (some (.tmp 105)) none none), none⟩, 
             ⟨(some 107), (.copy 1 (.tmp 103) (.tmp 106)), none⟩])
            (.seq (.ops [
              ⟨(some 108), (.mv (.tmp 0)), none⟩, 
              ⟨(some 109), (.mv (.tmp 10)), none⟩, 
              ⟨(some 110), (.sliceSl 1 (.tmp 108) (some (.tmp 109)) none none), none⟩, 
              ⟨none, (.raw ⟨none, (.call ⟨(.builtin .clear), #[(.tmp 110)], #[39]⟩), 0, "slices.go:291", #[⟨2, .data⟩], none⟩), none⟩])
             (.seq (.ops [
               ⟨(some 111), (.mv (.tmp 12)), none⟩, 
               ⟨(some 8), (.mv (.tmp 111)), none⟩])
              .ret))))
          .skip))
        (.seq (.seq (.ops [
           ⟨(some 112), (.mv (.tmp 12)), none⟩, 
           ⟨(some 113), (.mv (.tmp 1)), none⟩, 
           ⟨(some 114), (.mv (.tmp 3)), none⟩, 
           ⟨(some 115), (.lenSl (.tmp 114)), none⟩, 
           ⟨(some 116), (.bin .add (.tmp 113) (.tmp 115)), none⟩, 
           ⟨(some 117), (.sliceSl 1 (.tmp 112) (some (.tmp 116)) none none), none⟩, 
           ⟨(some 118), (.mv (.tmp 3)), none⟩, 
           ⟨(some 119), (.raw ⟨(some 119), (.call ⟨(.value (.func 41)), #[(.tmp 117), (.tmp 118)], #[39, 39]⟩), 4, "slices.go:306", #[⟨5, .data⟩, ⟨6, .data⟩], none⟩), none⟩, 
           ⟨(some 120), (.un .not (.tmp 119)), none⟩])
          (.cond (.tmp 120)
           (.seq (.any [121, 122, 123, 124, 125, 126, 127, 128, 129, 130] [
             ⟨(some 121), (.mv (.tmp 12)), none⟩, 
             ⟨(some 122), (.mv (.tmp 1)), none⟩, 
             ⟨(some 123), (.mv (.tmp 3)), none⟩, 
             ⟨(some 124), (.lenSl (.tmp 123)), none⟩, 
             ⟨(some 125), (.bin .add (.tmp 122) (.tmp 124)), none⟩, 
             ⟨(some 126), (.sliceSl 1 (.tmp 121) (some (.tmp 125)) none none), none⟩, 
             ⟨(some 127), (.mv (.tmp 0)), none⟩, 
             ⟨(some 128), (.mv (.tmp 2)), none⟩, 
             ⟨(some 129), (.sliceSl 1 (.tmp 127) (some (.tmp 128)) none none), none⟩, 
             ⟨(some 130), (.copy 1 (.tmp 126) (.tmp 129)), none⟩])
            (.seq (.ops [
              ⟨(some 131), (.mv (.tmp 12)), none⟩, 
              ⟨(some 132), (.mv (.tmp 1)), none⟩, 
              ⟨(some 133), (.sliceSl 1 (.tmp 131) (some (.tmp 132)) none none), none⟩, 
              ⟨(some 134), (.mv (.tmp 3)), none⟩, 
              ⟨(some 135), (.copy 1 (.tmp 133) (.tmp 134)), none⟩])
             (.seq (.ops [
               ⟨(some 136), (.mv (.tmp 12)), none⟩, 
               ⟨(some 8), (.mv (.tmp 136)), none⟩])
              .ret)))
           .skip))
         (.seq (.ops [
           ⟨(some 137), (.mv (.tmp 3)), none⟩, 
           ⟨(some 138), (.lenSl (.tmp 137)), none⟩, 
           ⟨(some 139), (.mv (.tmp 2)), none⟩, 
           ⟨(some 140), (.mv (.tmp 1)), none⟩, 
           ⟨(some 141), (.bin .sub (.tmp 139) (.tmp 140)), none⟩, 
           ⟨(some 142), (.bin .sub (.tmp 138) (.tmp 141)), none⟩, 
           ⟨(some 13), (.mv (.tmp 142)), none⟩])
          (.seq (.seq (.ops [
             ⟨(some 143), (.mv (.tmp 12)), none⟩, 
             ⟨(some 144), (.mv (.tmp 1)), none⟩, 
             ⟨(some 145), (.mv (.tmp 2)), none⟩, 
             ⟨(some 146), (.sliceSl 1 (.tmp 143) (some (.tmp 144)) (some (.tmp 145)) none), none⟩, 
             ⟨(some 147), (.mv (.tmp 3)), none⟩, 
             ⟨(some 148), (.raw ⟨(some 148), (.call ⟨(.value (.func 41)), #[(.tmp 146), (.tmp 147)], #[39, 39]⟩), 4, "slices.go:327", #[⟨3, .data⟩, ⟨4, .data⟩], none⟩), none⟩, 
             ⟨(some 149), (.un .not (.tmp 148)), none⟩])
            (.cond (.tmp 149)
             (.seq (.any [150, 151, 152, 153, 154, 155, 156, 157] [
               ⟨(some 150), (.mv (.tmp 12)), none⟩, 
               ⟨(some 151), (.mv (.tmp 1)), none⟩, 
               ⟨(some 152), (.mv (.tmp 2)), none⟩, 
               ⟨(some 153), (.sliceSl 1 (.tmp 150) (some (.tmp 151)) (some (.tmp 152)) none), none⟩, 
               ⟨(some 154), (.mv (.tmp 3)), none⟩, 
               ⟨(some 155), (.mv (.tmp 13)), none⟩, 
               ⟨(some 156), (.sliceSl 1 (.tmp 154) (some (.tmp 155)) none none), none⟩, 
               ⟨(some 157), (.copy 1 (.tmp 153) (.tmp 156)), none⟩])
              (.seq (.any [158, 159, 160, 161, 162, 163, 164, 165] [
                ⟨(some 158), (.mv (.tmp 12)), none⟩, 
                ⟨(some 159), (.mv (.tmp 0)), none⟩, 
                ⟨(some 160), (.lenSl (.tmp 159)), none⟩, 
                ⟨(some 161), (.sliceSl 1 (.tmp 158) (some (.tmp 160)) none none), none⟩, 
                ⟨(some 162), (.mv (.tmp 3)), none⟩, 
                ⟨(some 163), (.mv (.tmp 13)), none⟩, 
                ⟨(some 164), (.sliceSl 1 (.tmp 162) none (some (.tmp 163)) none), none⟩, 
                ⟨(some 165), (.copy 1 (.tmp 161) (.tmp 164)), none⟩])
               (.seq (.ops [
                 ⟨(some 166), (.mv (.tmp 12)), none⟩, 
                 ⟨(some 167), (.mv (.tmp 1)), none⟩, 
                 ⟨(some 168), (.sliceSl 1 (.tmp 166) (some (.tmp 167)) none none), none⟩, 
                 ⟨(some 169), (.mv (.tmp 13)), none⟩, 
                 ⟨(some 170), (.callF 42 [(.tmp 168), (.tmp 169)]), none⟩])
                (.seq (.ops [
                  ⟨(some 171), (.mv (.tmp 12)), none⟩, 
                  ⟨(some 8), (.mv (.tmp 171)), none⟩])
                 .ret))))
             .skip))
           (.seq (.seq (.ops [
              ⟨(some 172), (.mv (.tmp 12)), none⟩, 
              ⟨(some 173), (.mv (.tmp 0)), none⟩, 
              ⟨(some 174), (.lenSl (.tmp 173)), none⟩, 
              ⟨(some 175), (.sliceSl 1 (.tmp 172) (some (.tmp 174)) none none), none⟩, 
              ⟨(some 176), (.mv (.tmp 3)), none⟩, 
              ⟨(some 177), (.raw ⟨(some 177), (.call ⟨(.value (.func 41)), #[(.tmp 175), (.tmp 176)], #[39, 39]⟩), 4, "slices.go:333", #[⟨3, .data⟩, ⟨4, .data⟩], none⟩), none⟩, 
              ⟨(some 178), (.un .not (.tmp 177)), none⟩])
             (.cond (.tmp 178)
              (.seq (.any [179, 180, 181, 182, 183, 184, 185, 186] [
                ⟨(some 179), (.mv (.tmp 12)), none⟩, 
                ⟨(some 180), (.mv (.tmp 0)), none⟩, 
                ⟨(some 181), (.lenSl (.tmp 180)), none⟩, 
                ⟨(some 182), (.sliceSl 1 (.tmp 179) (some (.tmp 181)) none none), none⟩, 
                ⟨(some 183), (.mv (.tmp 3)), none⟩, 
                ⟨(some 184), (.mv (.tmp 13)), none⟩, 
                ⟨(some 185), (.sliceSl 1 (.tmp 183) none (some (.tmp 184)) none), none⟩, 
                ⟨(some 186), (.copy 1 (.tmp 182) (.tmp 185)), none⟩])
               (.seq (.any [187, 188, 189, 190, 191, 192, 193, 194] [
                 ⟨(some 187), (.mv (.tmp 12)), none⟩, 
                 ⟨(some 188), (.mv (.tmp 1)), none⟩, 
                 ⟨(some 189), (.mv (.tmp 2)), none⟩, 
                 ⟨(some 190), (.sliceSl 1 (.tmp 187) (some (.tmp 188)) (some (.tmp 189)) none), none⟩, 
                 ⟨(some 191), (.mv (.tmp 3)), none⟩, 
                 ⟨(some 192), (.mv (.tmp 13)), none⟩, 
                 ⟨(some 193), (.sliceSl 1 (.tmp 191) (some (.tmp 192)) none none), none⟩, 
                 ⟨(some 194), (.copy 1 (.tmp 190) (.tmp 193)), none⟩])
                (.seq (.ops [
                  ⟨(some 195), (.mv (.tmp 12)), none⟩, 
                  ⟨(some 196), (.mv (.tmp 1)), none⟩, 
                  ⟨(some 197), (.sliceSl 1 (.tmp 195) (some (.tmp 196)) none none), none⟩, 
                  ⟨(some 198), (.mv (.tmp 13)), none⟩, 
                  ⟨(some 199), (.callF 42 [(.tmp 197), (.tmp 198)]), none⟩])
                 (.seq (.ops [
                   ⟨(some 200), (.mv (.tmp 12)), none⟩, 
                   ⟨(some 8), (.mv (.tmp 200)), none⟩])
                  .ret))))
              .skip))
            (.seq (.ops [
              ⟨(some 201), (.mv (.tmp 3)), none⟩, 
              ⟨(some 202), (.mv (.tmp 0)), none⟩, 
              ⟨(some 203), (.mv (.tmp 2)), none⟩, 
              ⟨(some 204), (.sliceSl 1 (.tmp 202) (some (.tmp 203)) none none), none⟩, 
              ⟨(some 205), (.callF 43 [(.tmp 201), (.tmp 204)]), none⟩, 
              ⟨(some 14), (.mv (.tmp 205)), none⟩])
             (.seq (.ops [
               ⟨(some 206), (.mv (.tmp 12)), none⟩, 
               ⟨(some 207), (.mv (.tmp 1)), none⟩, 
               ⟨(some 208), (.sliceSl 1 (.tmp 206) (some (.tmp 207)) none none), none⟩, 
               ⟨(some 209), (.mv (.tmp 3)), none⟩, 
               ⟨(some 210), (.copy 1 (.tmp 208) (.tmp 209)), none⟩])
              (.seq (.any [211, 212, 213, 214, 215, 216, 217, 218, 219, 220, 221, 222] [
                ⟨(some 211), (.mv (.tmp 12)), none⟩, 
                ⟨(some 212), (.mv (.tmp 1)), none⟩, 
                ⟨(some 213), (.mv (.tmp 3)), none⟩, 
                ⟨(some 214), (.lenSl (.tmp 213)), none⟩, 
                ⟨(some 215), (.bin .add (.tmp 212) (.tmp 214)), none⟩, 
                ⟨(some 216), (.sliceSl 1 (.tmp 211) (some (.tmp 215)) none none), none⟩, 
                ⟨(some 217), (.mv (.tmp 12)), none⟩, 
                ⟨(some 218), (.mv (.tmp 1)), none⟩, 
                ⟨(some 219), (.mv (.tmp 14)), none⟩, 
                ⟨(some 220), (.bin .add (.tmp 218) (.tmp 219)), none⟩, 
                ⟨(some 221), (.sliceSl 1 (.tmp 217) (some (.tmp 220)) none none), none⟩, 
                ⟨(some 222), (.copy 1 (.tmp 216) (.tmp 221)), none⟩])
               (.seq (.ops [
                 ⟨(some 223), (.mv (.tmp 12)), none⟩, 
                 ⟨(some 8), (.mv (.tmp 223)), none⟩])
                .ret))))))))))))))))
theorem c27 {args : Array Value} {h : Heap} {R : Ending → Heap → Prop} (ha : args.size ≤ 224) (hh : aexec Try.prog ac27 (abody [(.slot 8)] R) ⟨initFr args.toList, []⟩ h) : HCalls Try.prog 27 args h R :=
  hcalls_of Try.func27 rfl rfl (by kernel_rfl) (by kernel_rfl) ha hh
/-- 28: (*credenza/btree.Tree).has -/
def ac28 : ACode :=
 (.seq (.ops [
  ⟨(some 4), (.mv (.const (.bool false))), none⟩])
 (.seq (.ops [
   ⟨(some 8), (.mv (.tmp 0)), none⟩, 
   ⟨(some 9), (.nilCheck (.tmp 8)), none⟩, 
   ⟨(some 10), (.fieldAddr 0 (.tmp 9)), none⟩, 
   ⟨(some 11), (.load1 (.tmp 10)), none⟩, 
   ⟨(some 12), (.mv (.tmp 1)), none⟩, 
   ⟨(some 13), (.lookMap (.int .i64) (.agg #[(.slice none 0 0), (.slice none 0 0), (.slice none 0 0)]) true (.tmp 11) (.tmp 12)), none⟩, 
   ⟨(some 7), (.mv (.tmp 13)), none⟩, 
   ⟨(some 14), (.extract (.tmp 7) 0), none⟩, 
   ⟨(some 15), (.extract (.tmp 7) 1), none⟩, 
   ⟨(some 5), (.new 41 [(.slice none 0 0), (.slice none 0 0), (.slice none 0 0)]), none⟩, 
   ⟨none, (.storeN 3 (.tmp 5) (.tmp 14)), none⟩, 
   ⟨(some 6), (.mv (.tmp 15)), none⟩])
  (.seq (.ops [
    ⟨(some 16), (.mv (.tmp 6)), none⟩, 
    ⟨(some 4), (.mv (.tmp 16)), none⟩])
   .ret)))
theorem c28 {args : Array Value} {h : Heap} {R : Ending → Heap → Prop} (ha : args.size ≤ 17) (hh : aexec Try.prog ac28 (abody [(.slot 4)] R) ⟨initFr args.toList, []⟩ h) : HCalls Try.prog 28 args h R :=
  hcalls_of Try.func28 rfl rfl (by kernel_rfl) (by kernel_rfl) ha hh
/-- 29: slices.Backward[[]int,int] -/
def ac29 : ACode :=
 (.seq (.ops [
  ⟨(some 1), (.box 39 (.tmp 0)), none⟩, 
  ⟨(some 2), (.mv (.const .nilFunc)), none⟩])
 (.seq (.ops [
   ⟨(some 3), (.mkFunc (.func 44) [] [(.tmp 1)]), none⟩, 
   ⟨(some 2), (.mv (.tmp 3)), none⟩])
  .ret))
theorem c29 {args : Array Value} {h : Heap} {R : Ending → Heap → Prop} (ha : args.size ≤ 4) (hh : aexec Try.prog ac29 (abody [(.slot 2)] R) ⟨initFr args.toList, []⟩ h) : HCalls Try.prog 29 args h R :=
  hcalls_of Try.func29 rfl rfl (by kernel_rfl) (by kernel_rfl) ha hh
/-- 30: slices.Backward[[]string,string] -/
def ac30 : ACode :=
 (.seq (.ops [
  ⟨(some 1), (.box 38 (.tmp 0)), none⟩, 
  ⟨(some 2), (.mv (.const .nilFunc)), none⟩])
 (.seq (.ops [
   ⟨(some 3), (.mkFunc (.func 45) [] [(.tmp 1)]), none⟩, 
   ⟨(some 2), (.mv (.tmp 3)), none⟩])
  .ret))
theorem c30 {args : Array Value} {h : Heap} {R : Ending → Heap → Prop} (ha : args.size ≤ 4) (hh : aexec Try.prog ac30 (abody [(.slot 2)] R) ⟨initFr args.toList, []⟩ h) : HCalls Try.prog 30 args h R :=
  hcalls_of Try.func30 rfl rfl (by kernel_rfl) (by kernel_rfl) ha hh
/-- 31: slices.Clone[[]string,string] -/
def ac31 : ACode :=
 (.seq (.ops [
  ⟨(some 2), (.mv (.const (.slice none 0 0))), none⟩])
 (.seq (.seq (.ops [
    ⟨(some 3), (.mv (.tmp 0)), none⟩, 
    ⟨(some 4), (.isNil 2 false (.tmp 3)), none⟩])
   (.cond (.tmp 4)
    (.seq (.ops [
      ⟨(some 2), (.mv (.const (.slice none 0 0))), none⟩])
     .ret)
    .skip))
  (.seq (.ops [
    ⟨(some 5), (.buildSlice 9 0 [] []), none⟩, 
    ⟨(some 6), (.mv (.tmp 0)), none⟩, 
    ⟨(some 7), (.append 9 1 16 [(.string ⟨#[]⟩)] (.tmp 5) (.tmp 6)), none⟩, 
    ⟨(some 2), (.mv (.tmp 7)), none⟩])
   .ret)))
theorem c31 {args : Array Value} {h : Heap} {R : Ending → Heap → Prop} (ha : args.size ≤ 8) (hh : aexec Try.prog ac31 (abody [(.slot 2)] R) ⟨initFr args.toList, []⟩ h) : HCalls Try.prog 31 args h R :=
  hcalls_of Try.func31 rfl rfl (by kernel_rfl) (by kernel_rfl) ha hh
/-- 32: slices.Clone[[]int,int] -/
def ac32 : ACode :=
 (.seq (.ops [
  ⟨(some 2), (.mv (.const (.slice none 0 0))), none⟩])
 (.seq (.seq (.ops [
    ⟨(some 3), (.mv (.tmp 0)), none⟩, 
    ⟨(some 4), (.isNil 2 false (.tmp 3)), none⟩])
   (.cond (.tmp 4)
    (.seq (.ops [
      ⟨(some 2), (.mv (.const (.slice none 0 0))), none⟩])
     .ret)
    .skip))
  (.seq (.ops [
    ⟨(some 5), (.buildSlice 3 0 [] []), none⟩, 
    ⟨(some 6), (.mv (.tmp 0)), none⟩, 
    ⟨(some 7), (.append 3 1 8 [(.int .i64 0)] (.tmp 5) (.tmp 6)), none⟩, 
    ⟨(some 2), (.mv (.tmp 7)), none⟩])
   .ret)))
theorem c32 {args : Array Value} {h : Heap} {R : Ending → Heap → Prop} (ha : args.size ≤ 8) (hh : aexec Try.prog ac32 (abody [(.slot 2)] R) ⟨initFr args.toList, []⟩ h) : HCalls Try.prog 32 args h R :=
  hcalls_of Try.func32 rfl rfl (by kernel_rfl) (by kernel_rfl) ha hh
/-- 33: (*credenza/btree.Tree).under$1 -/
def ac33 : ACode :=
 (.seq (.ops [
  ⟨(some 9), .mkMap, none⟩, 
  ⟨(some 4), (.mv (.tmp 9)), none⟩])
 (.seq (.ops [
   ⟨(some 10), (.load1 (.tmp 1)), none⟩, 
   ⟨(some 11), (.buildSlice 3 1 [(.int .i64 0)] [(0, 1, (.tmp 10))]), none⟩, 
   ⟨(some 5), (.mv (.tmp 11)), none⟩])
  (.block 0
   (.loop
    (.seq (.seq (.ops [
       ⟨(some 12), (.mv (.tmp 5)), none⟩, 
       ⟨(some 13), (.lenSl (.tmp 12)), none⟩, 
       ⟨(some 14), (.bin .gtr (.tmp 13) (.const (.int .i64 0))), none⟩])
      (.cond (.tmp 14)
       .skip
       (.exit 0)))
     (.block 1
      (.seq (.ops [
        ⟨(some 15), (.mv (.tmp 5)), none⟩, 
        ⟨(some 16), (.mv (.tmp 5)), none⟩, 
        ⟨(some 17), (.lenSl (.tmp 16)), none⟩, 
        ⟨(some 18), (.bin .sub (.tmp 17) (.const (.int .i64 1))), none⟩, 
        ⟨(some 19), (.idxSl 1 (.tmp 15) (.tmp 18)), none⟩, 
        ⟨(some 20), (.load1 (.tmp 19)), none⟩, 
        ⟨(some 6), (.mv (.tmp 20)), none⟩])
       (.seq (.ops [
         ⟨(some 21), (.mv (.tmp 5)), none⟩, 
         ⟨(some 22), (.mv (.tmp 5)), none⟩, 
         ⟨(some 23), (.lenSl (.tmp 22)), none⟩, 
         ⟨(some 24), (.bin .sub (.tmp 23) (.const (.int .i64 1))), none⟩, 
         ⟨(some 25), (.sliceSl 1 (.tmp 21) none (some (.tmp 24)) none), none⟩, 
         ⟨(some 5), (.mv (.tmp 25)), none⟩])
        (.seq (.ops [
          ⟨(some 27), (.load1 (.tmp 2)), none⟩, 
          ⟨(some 28), (.nilCheck (.tmp 27)), none⟩, 
          ⟨(some 29), (.fieldAddr 0 (.tmp 28)), none⟩, 
          ⟨(some 30), (.load1 (.tmp 29)), none⟩, 
          ⟨(some 31), (.mv (.tmp 6)), none⟩, 
          ⟨(some 32), (.lookMap (.int .i64) (.agg #[(.slice none 0 0), (.slice none 0 0), (.slice none 0 0)]) true (.tmp 30) (.tmp 31)), none⟩, 
          ⟨(some 26), (.mv (.tmp 32)), none⟩, 
          ⟨(some 33), (.extract (.tmp 26) 0), none⟩, 
          ⟨(some 34), (.extract (.tmp 26) 1), none⟩, 
          ⟨(some 7), (.new 41 [(.slice none 0 0), (.slice none 0 0), (.slice none 0 0)]), none⟩, 
          ⟨none, (.storeN 3 (.tmp 7) (.tmp 33)), none⟩, 
          ⟨(some 8), (.mv (.tmp 34)), none⟩])
         (.seq (.seq (.ops [
            ⟨(some 35), (.mv (.tmp 8)), none⟩, 
            ⟨(some 36), (.un .not (.tmp 35)), none⟩, 
            ⟨(some 37), (.mv (.tmp 36)), none⟩, 
            ⟨(some 38), (.mv (.tmp 4)), (some (37, false))⟩, 
            ⟨(some 39), (.mv (.tmp 6)), (some (37, false))⟩, 
            ⟨(some 40), (.lookMap (.int .i64) (.int .i64 0) false (.tmp 38) (.tmp 39)), (some (37, false))⟩, 
            ⟨(some 41), (.bin .gtr (.tmp 40) (.const (.int .i64 0))), (some (37, false))⟩, 
            ⟨(some 42), (.pick (.tmp 37) (.const (.bool true)) (.tmp 41)), none⟩])
           (.cond (.tmp 42)
            (.exit 1)
            .skip))
          (.seq (.ops [
            ⟨(some 43), (.mv (.tmp 4)), none⟩, 
            ⟨(some 44), (.mv (.tmp 6)), none⟩, 
            ⟨none, (.setMap (.int .i64) (.tmp 43) (.tmp 44) (.const (.int .i64 1))), none⟩])
           (.seq (.seq (.ops [
              ⟨(some 45), (.mv (.tmp 0)), none⟩, 
              ⟨(some 46), (.mv (.tmp 6)), none⟩, 
              ⟨(some 47), (.callV (.tmp 45) [(.tmp 46)]), none⟩, 
              ⟨(some 48), (.un .not (.tmp 47)), none⟩])
             (.cond (.tmp 48)
              .ret
              .skip))
            (.ops [
             ⟨(some 49), (.mv (.tmp 5)), none⟩, 
             ⟨(some 50), (.fieldAddr 2 (.tmp 7)), none⟩, 
             ⟨(some 51), (.load1 (.tmp 50)), none⟩, 
             ⟨(some 52), (.append 3 1 8 [(.int .i64 0)] (.tmp 49) (.tmp 51)), none⟩, 
             ⟨(some 5), (.mv (.tmp 52)), none⟩])))))))))))))
theorem c33 {args : Array Value} {h : Heap} {R : Ending → Heap → Prop} (ha : args.size ≤ 53) (hh : aexec Try.prog ac33 (abody [] R) ⟨initFr args.toList, []⟩ h) : HCalls Try.prog 33 args h R :=
  hcalls_of Try.func33 rfl rfl (by kernel_rfl) (by kernel_rfl) ha hh
/-- 34: sort.SearchStrings -/
def ac34 : ACode :=
 (.seq (.ops [
  ⟨(some 2), (.box 38 (.tmp 0)), none⟩, 
  ⟨(some 3), (.box 9 (.tmp 1)), none⟩, 
  ⟨(some 4), (.mv (.const (.int .i64 0))), none⟩])
 (.seq (.ops [
   ⟨(some 5), (.load1 (.tmp 2)), none⟩, 
   ⟨(some 6), (.lenSl (.tmp 5)), none⟩, 
   ⟨(some 7), (.mkFunc (.func 46) [] [(.tmp 2), (.tmp 3)]), none⟩, 
   ⟨(some 8), (.callF 38 [(.tmp 6), (.tmp 7)]), none⟩, 
   ⟨(some 4), (.mv (.tmp 8)), none⟩])
  .ret))
theorem c34 {args : Array Value} {h : Heap} {R : Ending → Heap → Prop} (ha : args.size ≤ 9) (hh : aexec Try.prog ac34 (abody [(.slot 4)] R) ⟨initFr args.toList, []⟩ h) : HCalls Try.prog 34 args h R :=
  hcalls_of Try.func34 rfl rfl (by kernel_rfl) (by kernel_rfl) ha hh
/-- 37: slices.IsSorted[[]string,string] -/
def ac37 : ACode :=
 (.seq (.ops [
  ⟨(some 2), (.mv (.const (.bool false))), none⟩])
 (.seq (.seq (.ops [
    ⟨(some 4), (.mv (.tmp 0)), none⟩, 
    ⟨(some 5), (.lenSl (.tmp 4)), none⟩, 
    ⟨(some 6), (.bin .sub (.tmp 5) (.const (.int .i64 1))), none⟩, 
    ⟨(some 3), (.mv (.tmp 6)), none⟩])
   (.block 0
    (.loop
     (.seq (.seq (.ops [
        ⟨(some 7), (.mv (.tmp 3)), none⟩, 
        ⟨(some 8), (.bin .gtr (.tmp 7) (.const (.int .i64 0))), none⟩])
       (.cond (.tmp 8)
        .skip
        (.exit 0)))
      (.seq (.block 1
        (.seq (.any [11, 12, 13, 14, 15, 16, 17, 18, 19, 20] [
          ⟨(some 11), (.mv (.tmp 0)), none⟩, 
          ⟨(some 12), (.mv (.tmp 3)), none⟩, 
          ⟨(some 13), (.idxSl 1 (.tmp 11) (.tmp 12)), none⟩, 
          ⟨(some 14), (.load1 (.tmp 13)), none⟩, 
          ⟨(some 15), (.mv (.tmp 0)), none⟩, 
          ⟨(some 16), (.mv (.tmp 3)), none⟩, 
          ⟨(some 17), (.bin .sub (.tmp 16) (.const (.int .i64 1))), none⟩, 
          ⟨(some 18), (.idxSl 1 (.tmp 15) (.tmp 17)), none⟩, 
          ⟨(some 19), (.load1 (.tmp 18)), none⟩, 
          ⟨(some 20), (.callF 48 [(.tmp 14), (.tmp 19)]), none⟩])
         (.cond (.tmp 20)
          (.seq (.ops [
            ⟨(some 2), (.mv (.const (.bool false))), none⟩])
           .ret)
          .skip)))
       (.ops [
        ⟨(some 9), (.mv (.tmp 3)), none⟩, 
        ⟨(some 10), (.bin .sub (.tmp 9) (.const (.int .i64 1))), none⟩, 
        ⟨(some 3), (.mv (.tmp 10)), none⟩]))))))
  (.seq (.ops [
    ⟨(some 2), (.mv (.const (.bool true))), none⟩])
   .ret)))
theorem c37 {args : Array Value} {h : Heap} {R : Ending → Heap → Prop} (ha : args.size ≤ 21) (hh : aexec Try.prog ac37 (abody [(.slot 2)] R) ⟨initFr args.toList, []⟩ h) : HCalls Try.prog 37 args h R :=
  hcalls_of Try.func37 rfl rfl (by kernel_rfl) (by kernel_rfl) ha hh
/-- 38: sort.Search -/
def ac38 : ACode :=
 (.seq (.ops [
  ⟨(some 4), (.mv (.const (.int .i64 0))), none⟩])
 (.seq (.ops [
   ⟨(some 8), (.mv (.tmp 0)), none⟩, 
   ⟨(some 5), (.mv (.const (.int .i64 0))), none⟩, 
   ⟨(some 6), (.mv (.tmp 8)), none⟩])
  (.seq (.block 0
    (.loop
     (.seq (.seq (.ops [
        ⟨(some 9), (.mv (.tmp 5)), none⟩, 
        ⟨(some 10), (.mv (.tmp 6)), none⟩, 
        ⟨(some 11), (.bin .lss (.tmp 9) (.tmp 10)), none⟩])
       (.cond (.tmp 11)
        .skip
        (.exit 0)))
      (.block 1
       (.seq (.ops [
         ⟨(some 12), (.mv (.tmp 5)), none⟩, 
         ⟨(some 13), (.mv (.tmp 6)), none⟩, 
         ⟨(some 14), (.bin .add (.tmp 12) (.tmp 13)), none⟩, 
         ⟨(some 15), (.convInt .u64 (.tmp 14)), none⟩, 
         ⟨(some 16), (.bin .shr (.tmp 15) (.const (.int .u64 1))), none⟩, 
         ⟨(some 17), (.convInt .i64 (.tmp 16)), none⟩, 
         ⟨(some 7), (.mv (.tmp 17)), none⟩])
        (.seq (.ops [
          ⟨(some 18), (.mv (.tmp 1)), none⟩, 
          ⟨(some 19), (.mv (.tmp 7)), none⟩, 
          ⟨(some 20), (.callV (.tmp 18) [(.tmp 19)]), none⟩, 
          ⟨(some 21), (.un .not (.tmp 20)), none⟩])
         (.cond (.tmp 21)
          (.ops [
           ⟨(some 22), (.mv (.tmp 7)), none⟩, 
           ⟨(some 23), (.bin .add (.tmp 22) (.const (.int .i64 1))), none⟩, 
           ⟨(some 5), (.mv (.tmp 23)), none⟩])
          (.ops [
           ⟨(some 24), (.mv (.tmp 7)), none⟩, 
           ⟨(some 6), (.mv (.tmp 24)), none⟩]))))))))
   (.seq (.ops [
     ⟨(some 25), (.mv (.tmp 5)), none⟩, 
     ⟨(some 4), (.mv (.tmp 25)), none⟩])
    .ret))))
theorem c38 {args : Array Value} {h : Heap} {R : Ending → Heap → Prop} (ha : args.size ≤ 26) (hh : aexec Try.prog ac38 (abody [(.slot 4)] R) ⟨initFr args.toList, []⟩ h) : HCalls Try.prog 38 args h R :=
  hcalls_of Try.func38 rfl rfl (by kernel_rfl) (by kernel_rfl) ha hh
/-- 39: credenza/node.Child$1 -/
def ac39 : ACode :=
 (.seq (.ops [
  ⟨(some 4), (.mv (.const (.bool false))), none⟩])
 (.seq (.any [5, 6, 7, 8, 9, 10, 11, 4] [
   ⟨(some 5), (.fieldAddr 0 (.tmp 1)), none⟩, 
   ⟨(some 6), (.load1 (.tmp 5)), none⟩, 
   ⟨(some 7), (.mv (.tmp 0)), none⟩, 
   ⟨(some 8), (.idxSl 1 (.tmp 6) (.tmp 7)), none⟩, 
   ⟨(some 9), (.load1 (.tmp 8)), none⟩, 
   ⟨(some 10), (.load1 (.tmp 2)), none⟩, 
   ⟨(some 11), (.bin .gtr (.tmp 9) (.tmp 10)), none⟩, 
   ⟨(some 4), (.mv (.tmp 11)), none⟩])
  .ret))
theorem c39 {args : Array Value} {h : Heap} {R : Ending → Heap → Prop} (ha : args.size ≤ 12) (hh : aexec Try.prog ac39 (abody [(.slot 4)] R) ⟨initFr args.toList, []⟩ h) : HCalls Try.prog 39 args h R :=
  hcalls_of Try.func39 rfl rfl (by kernel_rfl) (by kernel_rfl) ha hh
/-- 44: slices.Backward[[]int,int]$1 -/
def ac44 : ACode :=
 (.seq (.ops [
  ⟨(some 4), (.load1 (.tmp 1)), none⟩, 
  ⟨(some 5), (.lenSl (.tmp 4)), none⟩, 
  ⟨(some 6), (.bin .sub (.tmp 5) (.const (.int .i64 1))), none⟩, 
  ⟨(some 3), (.mv (.tmp 6)), none⟩])
 (.block 0
  (.loop
   (.seq (.seq (.ops [
      ⟨(some 7), (.mv (.tmp 3)), none⟩, 
      ⟨(some 8), (.bin .geq (.tmp 7) (.const (.int .i64 0))), none⟩])
     (.cond (.tmp 8)
      .skip
      (.exit 0)))
    (.seq (.block 1
      (.seq (.ops [
        ⟨(some 11), (.mv (.tmp 0)), none⟩, 
        ⟨(some 12), (.mv (.tmp 3)), none⟩, 
        ⟨(some 13), (.load1 (.tmp 1)), none⟩, 
        ⟨(some 14), (.mv (.tmp 3)), none⟩, 
        ⟨(some 15), (.idxSl 1 (.tmp 13) (.tmp 14)), none⟩, 
        ⟨(some 16), (.load1 (.tmp 15)), none⟩, 
        ⟨(some 17), (.callV (.tmp 11) [(.tmp 12), (.tmp 16)]), none⟩, 
        ⟨(some 18), (.un .not (.tmp 17)), none⟩])
       (.cond (.tmp 18)
        .ret
        .skip)))
     (.ops [
      ⟨(some 9), (.mv (.tmp 3)), none⟩, 
      ⟨(some 10), (.bin .sub (.tmp 9) (.const (.int .i64 1))), none⟩, 
      ⟨(some 3), (.mv (.tmp 10)), none⟩]))))))
theorem c44 {args : Array Value} {h : Heap} {R : Ending → Heap → Prop} (ha : args.size ≤ 19) (hh : aexec Try.prog ac44 (abody [] R) ⟨initFr args.toList, []⟩ h) : HCalls Try.prog 44 args h R :=
  hcalls_of Try.func44 rfl rfl (by kernel_rfl) (by kernel_rfl) ha hh
/-- 45: slices.Backward[[]string,string]$1 -/
def ac45 : ACode :=
 (.seq (.ops [
  ⟨(some 4), (.load1 (.tmp 1)), none⟩, 
  ⟨(some 5), (.lenSl (.tmp 4)), none⟩, 
  ⟨(some 6), (.bin .sub (.tmp 5) (.const (.int .i64 1))), none⟩, 
  ⟨(some 3), (.mv (.tmp 6)), none⟩])
 (.block 0
  (.loop
   (.seq (.seq (.ops [
      ⟨(some 7), (.mv (.tmp 3)), none⟩, 
      ⟨(some 8), (.bin .geq (.tmp 7) (.const (.int .i64 0))), none⟩])
     (.cond (.tmp 8)
      .skip
      (.exit 0)))
    (.seq (.block 1
      (.seq (.ops [
        ⟨(some 11), (.mv (.tmp 0)), none⟩, 
        ⟨(some 12), (.mv (.tmp 3)), none⟩, 
        ⟨(some 13), (.load1 (.tmp 1)), none⟩, 
        ⟨(some 14), (.mv (.tmp 3)), none⟩, 
        ⟨(some 15), (.idxSl 1 (.tmp 13) (.tmp 14)), none⟩, 
        ⟨(some 16), (.load1 (.tmp 15)), none⟩, 
        ⟨(some 17), (.callV (.tmp 11) [(.tmp 12), (.tmp 16)]), none⟩, 
        ⟨(some 18), (.un .not (.tmp 17)), none⟩])
       (.cond (.tmp 18)
        .ret
        .skip)))
     (.ops [
      ⟨(some 9), (.mv (.tmp 3)), none⟩, 
      ⟨(some 10), (.bin .sub (.tmp 9) (.const (.int .i64 1))), none⟩, 
      ⟨(some 3), (.mv (.tmp 10)), none⟩]))))))
theorem c45 {args : Array Value} {h : Heap} {R : Ending → Heap → Prop} (ha : args.size ≤ 19) (hh : aexec Try.prog ac45 (abody [] R) ⟨initFr args.toList, []⟩ h) : HCalls Try.prog 45 args h R :=
  hcalls_of Try.func45 rfl rfl (by kernel_rfl) (by kernel_rfl) ha hh
/-- 46: sort.SearchStrings$1 -/
def ac46 : ACode :=
 (.seq (.ops [
  ⟨(some 4), (.mv (.const (.bool false))), none⟩])
 (.seq (.any [5, 6, 7, 8, 9, 10, 4] [
   ⟨(some 5), (.load1 (.tmp 1)), none⟩, 
   ⟨(some 6), (.mv (.tmp 0)), none⟩, 
   ⟨(some 7), (.idxSl 1 (.tmp 5) (.tmp 6)), none⟩, 
   ⟨(some 8), (.load1 (.tmp 7)), none⟩, 
   ⟨(some 9), (.load1 (.tmp 2)), none⟩, 
   ⟨(some 10), (.bin .geq (.tmp 8) (.tmp 9)), none⟩, 
   ⟨(some 4), (.mv (.tmp 10)), none⟩])
  .ret))
theorem c46 {args : Array Value} {h : Heap} {R : Ending → Heap → Prop} (ha : args.size ≤ 11) (hh : aexec Try.prog ac46 (abody [(.slot 4)] R) ⟨initFr args.toList, []⟩ h) : HCalls Try.prog 46 args h R :=
  hcalls_of Try.func46 rfl rfl (by kernel_rfl) (by kernel_rfl) ha hh
/-- 48: cmp.Less[string] -/
def ac48 : ACode :=
 (.seq (.ops [
  ⟨(some 4), (.mv (.const (.bool false))), none⟩])
 (.seq (.ops [
   ⟨(some 5), (.mv (.tmp 0)), none⟩, 
   ⟨(some 6), (.callF 51 [(.tmp 5)]), none⟩, 
   ⟨(some 7), (.mv (.tmp 6)), none⟩, 
   ⟨(some 8), (.mv (.tmp 1)), (some (7, true))⟩, 
   ⟨(some 9), (.callF 51 [(.tmp 8)]), (some (7, true))⟩, 
   ⟨(some 10), (.un .not (.tmp 9)), (some (7, true))⟩, 
   ⟨(some 11), (.pick (.tmp 7) (.tmp 10) (.const (.bool false))), none⟩, 
   ⟨(some 12), (.mv (.tmp 11)), none⟩, 
   ⟨(some 13), (.mv (.tmp 0)), (some (12, false))⟩, 
   ⟨(some 14), (.mv (.tmp 1)), (some (12, false))⟩, 
   ⟨(some 15), (.bin .lss (.tmp 13) (.tmp 14)), (some (12, false))⟩, 
   ⟨(some 16), (.pick (.tmp 12) (.const (.bool true)) (.tmp 15)), none⟩, 
   ⟨(some 4), (.mv (.tmp 16)), none⟩])
  .ret))
theorem c48 {args : Array Value} {h : Heap} {R : Ending → Heap → Prop} (ha : args.size ≤ 17) (hh : aexec Try.prog ac48 (abody [(.slot 4)] R) ⟨initFr args.toList, []⟩ h) : HCalls Try.prog 48 args h R :=
  hcalls_of Try.func48 rfl rfl (by kernel_rfl) (by kernel_rfl) ha hh
/-- 51: cmp.isNaN[string] -/
def ac51 : ACode :=
 (.seq (.ops [
  ⟨(some 2), (.mv (.const (.bool false))), none⟩])
 (.seq (.ops [
   ⟨(some 3), (.mv (.tmp 0)), none⟩, 
   ⟨(some 4), (.mv (.tmp 0)), none⟩, 
   ⟨(some 5), (.bin .neq (.tmp 3) (.tmp 4)), none⟩, 
   ⟨(some 2), (.mv (.tmp 5)), none⟩])
  .ret))
theorem c51 {args : Array Value} {h : Heap} {R : Ending → Heap → Prop} (ha : args.size ≤ 6) (hh : aexec Try.prog ac51 (abody [(.slot 2)] R) ⟨initFr args.toList, []⟩ h) : HCalls Try.prog 51 args h R :=
  hcalls_of Try.func51 rfl rfl (by kernel_rfl) (by kernel_rfl) ha hh


end Go.Proofs.Ytljindmibfkhfaa.Hc
