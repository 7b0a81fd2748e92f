import Derived.Test.YtlbmhpjefpdekaaProg
import Derived.Test.YtlbmhpjefpdekaaHM
import Derived.Test.YtlbmhpjefpdekaaHP
import Derived.KernelRfl
set_option linter.unusedVariables false
namespace Go.Proofs.Ytlbmhpjefpdekaa.Hc
open Go Go.H Go.Proofs
set_option maxRecDepth 100000
/-- 2: gosem.cut.init -/
def ac2 : ACode :=
 (.ops [
 ⟨(some 0), (.raw ⟨(some 0), (.call ⟨(.value (.func 1)), #[], #[]⟩), 0, "", #[], none⟩), none⟩])
theorem c2 {args : Array Value} {h : Heap} {R : Ending → Heap → Prop} (ha : args.size ≤ 1) (hh : aexec Try.prog ac2 (abody [] R) ⟨initFr args.toList, []⟩ h) : HCalls Try.prog 2 args h R :=
  hcalls_of Try.func2 rfl rfl (by kernel_rfl) (by kernel_rfl) ha hh
/-- 3: credenza/credenzalaw16.DiskGoes -/
def ac3 : ACode :=
 (.seq (.ops [
  ⟨(some 4), (.mv (.const (.bool false))), none⟩])
 (.seq (.ops [
   ⟨(some 13), (.callF 7 []), none⟩, 
   ⟨(some 5), (.mv (.tmp 13)), none⟩])
  (.seq (.ops [
    ⟨(some 15), (.mv (.tmp 0)), none⟩, 
    ⟨(some 16), (.callF 8 [(.tmp 15)]), none⟩, 
    ⟨(some 14), (.mv (.tmp 16)), none⟩, 
    ⟨(some 17), (.extract (.tmp 14) 0), none⟩, 
    ⟨(some 18), (.extract (.tmp 14) 1), none⟩, 
    ⟨(some 6), (.mv (.tmp 17)), none⟩, 
    ⟨(some 7), (.mv (.tmp 18)), none⟩])
   (.seq (.ops [
     ⟨(some 20), (.mv (.tmp 0)), none⟩, 
     ⟨(some 21), (.callF 9 [(.tmp 20)]), none⟩, 
     ⟨(some 19), (.mv (.tmp 21)), none⟩, 
     ⟨(some 22), (.extract (.tmp 19) 0), none⟩, 
     ⟨(some 23), (.extract (.tmp 19) 1), none⟩, 
     ⟨(some 8), (.mv (.tmp 22)), none⟩, 
     ⟨(some 9), (.mv (.tmp 23)), none⟩])
    (.seq (.seq (.ops [
       ⟨(some 24), (.mv (.tmp 6)), none⟩, 
       ⟨(some 25), (.isNil 1 false (.tmp 24)), none⟩, 
       ⟨(some 26), (.mv (.tmp 25)), none⟩, 
       ⟨(some 27), (.mv (.tmp 8)), (some (26, false))⟩, 
       ⟨(some 28), (.isNil 1 false (.tmp 27)), (some (26, false))⟩, 
       ⟨(some 29), (.pick (.tmp 26) (.const (.bool true)) (.tmp 28)), none⟩, 
       ⟨(some 30), (.mv (.tmp 29)), none⟩, 
       ⟨(some 31), (.mv (.tmp 1)), (some (30, false))⟩, 
       ⟨(some 32), (.lenSl (.tmp 31)), (some (30, false))⟩, 
       ⟨(some 33), (.bin .gtr (.tmp 32) (.const (.int .i64 200))), (some (30, false))⟩, 
       ⟨(some 34), (.pick (.tmp 30) (.const (.bool true)) (.tmp 33)), none⟩, 
       ⟨(some 35), (.mv (.tmp 34)), none⟩, 
       ⟨(some 36), (.mv (.tmp 0)), (some (35, false))⟩, 
       ⟨(some 37), (.bin .gtr (.tmp 36) (.const (.int .i64 100))), (some (35, false))⟩, 
       ⟨(some 38), (.pick (.tmp 35) (.const (.bool true)) (.tmp 37)), none⟩])
      (.cond (.tmp 38)
       (.seq (.ops [
         ⟨(some 39), (.mv (.tmp 5)), none⟩, 
         ⟨(some 40), (.mv (.tmp 39)), none⟩, 
         ⟨(some 41), (.mv (.tmp 6)), (some (40, true))⟩, 
         ⟨(some 42), (.isNil 1 false (.tmp 41)), (some (40, true))⟩, 
         ⟨(some 43), (.mv (.tmp 8)), (some (40, true))⟩, 
         ⟨(some 44), (.isNil 1 false (.tmp 43)), (some (40, true))⟩, 
         ⟨(some 45), (.eqB false (.tmp 42) (.tmp 44)), (some (40, true))⟩, 
         ⟨(some 46), (.pick (.tmp 40) (.tmp 45) (.const (.bool false))), none⟩, 
         ⟨(some 47), (.mv (.tmp 46)), none⟩, 
         ⟨(some 48), (.mv (.tmp 7)), (some (47, true))⟩, 
         ⟨(some 49), (.mv (.tmp 9)), (some (47, true))⟩, 
         ⟨(some 50), (.bin .eql (.tmp 48) (.tmp 49)), (some (47, true))⟩, 
         ⟨(some 51), (.pick (.tmp 47) (.tmp 50) (.const (.bool false))), none⟩, 
         ⟨(some 4), (.mv (.tmp 51)), none⟩])
        .ret)
       .skip))
     (.seq (.seq (.ops [
        ⟨(some 52), (.mv (.tmp 1)), none⟩, 
        ⟨(some 53), (.lenSl (.tmp 52)), none⟩, 
        ⟨(some 54), (.mv (.const (.int .i64 0))), none⟩])
       (.block 0
        (.loop
         (.seq (.ops [
           ⟨(some 55), (.bin .lss (.tmp 54) (.tmp 53)), none⟩])
          (.seq (.cond (.tmp 55)
            .skip
            (.exit 0))
           (.seq (.block 1
             (.seq (.ops [
               ⟨(some 56), (.idxSl 4 (.tmp 52) (.tmp 54)), none⟩, 
               ⟨(some 57), (.loadN 4 (.tmp 56)), none⟩, 
               ⟨(some 11), (.new 33 [(.int .i64 0), (.int .i64 0), (.int .i64 0), (.slice none 0 0)]), none⟩, 
               ⟨none, (.storeN 4 (.tmp 11) (.tmp 57)), none⟩])
              (.seq (.ops [
                ⟨(some 58), (.mv (.tmp 6)), none⟩, 
                ⟨(some 59), (.mv (.tmp 8)), none⟩, 
                ⟨(some 60), (.loadN 4 (.tmp 11)), none⟩, 
                ⟨(some 61), (.callF 10 [(.tmp 58), (.tmp 59), (.tmp 60)]), none⟩, 
                ⟨(some 62), (.un .not (.tmp 61)), none⟩])
               (.cond (.tmp 62)
                (.seq (.ops [
                  ⟨(some 4), (.mv (.const (.bool false))), none⟩])
                 .ret)
                .skip))))
            (.ops [
             ⟨(some 63), (.bin .add (.tmp 54) (.const (.int .i64 1))), none⟩, 
             ⟨(some 54), (.mv (.tmp 63)), none⟩])))))))
      (.seq (.ops [
        ⟨(some 64), (.mv (.tmp 6)), none⟩, 
        ⟨(some 65), (.callF 11 [(.tmp 64)]), none⟩])
       (.seq (.ops [
         ⟨(some 66), (.mv (.tmp 8)), none⟩, 
         ⟨(some 67), (.callF 12 [(.tmp 66)]), none⟩])
        (.seq (.seq (.ops [
           ⟨(some 68), (.mv (.tmp 8)), none⟩, 
           ⟨(some 69), (.callF 13 [(.tmp 68)]), none⟩, 
           ⟨(some 70), (.mv (.const (.int .i64 0))), none⟩])
          (.block 2
           (.loop
            (.seq (.ops [
              ⟨(some 71), (.bin .lss (.tmp 70) (.tmp 69)), none⟩])
             (.seq (.cond (.tmp 71)
               .skip
               (.exit 2))
              (.seq (.block 3
                (.seq (.ops [
                  ⟨(some 72), (.mv (.tmp 70)), none⟩, 
                  ⟨(some 12), (.mv (.tmp 72)), none⟩])
                 (.seq (.ops [
                   ⟨(some 73), (.mv (.tmp 6)), none⟩, 
                   ⟨(some 74), (.mv (.tmp 8)), none⟩, 
                   ⟨(some 75), (.mv (.tmp 12)), none⟩, 
                   ⟨(some 76), (.build [(.int .i64 0), (.int .i64 0), (.int .i64 0), (.slice none 0 0)] [(0, 1, (.const (.int .i64 3))), (1, 1, (.tmp 75))]), none⟩, 
                   ⟨(some 77), (.callF 10 [(.tmp 73), (.tmp 74), (.tmp 76)]), none⟩, 
                   ⟨(some 78), (.un .not (.tmp 77)), none⟩])
                  (.cond (.tmp 78)
                   (.seq (.ops [
                     ⟨(some 4), (.mv (.const (.bool false))), none⟩])
                    .ret)
                   .skip))))
               (.ops [
                ⟨(some 79), (.bin .add (.tmp 70) (.const (.int .i64 1))), none⟩, 
                ⟨(some 70), (.mv (.tmp 79)), none⟩])))))))
         (.seq (.ops [
           ⟨(some 80), (.mv (.tmp 5)), none⟩, 
           ⟨(some 81), (.mv (.tmp 80)), none⟩, 
           ⟨(some 82), (.mv (.tmp 7)), (some (81, true))⟩, 
           ⟨(some 83), (.mv (.tmp 9)), (some (81, true))⟩, 
           ⟨(some 84), (.bin .eql (.tmp 82) (.tmp 83)), (some (81, true))⟩, 
           ⟨(some 85), (.pick (.tmp 81) (.tmp 84) (.const (.bool false))), none⟩, 
           ⟨(some 4), (.mv (.tmp 85)), none⟩])
          .ret))))))))))
theorem c3 {args : Array Value} {h : Heap} {R : Ending → Heap → Prop} (ha : args.size ≤ 86) (hh : aexec Try.prog ac3 (abody [(.slot 4)] R) ⟨initFr args.toList, []⟩ h) : HCalls Try.prog 3 args h R :=
  hcalls_of Try.func3 rfl rfl (by kernel_rfl) (by kernel_rfl) ha hh
/-- 4: credenza/credenzalaw16.DiskFirm -/
def ac4 : ACode :=
 (.seq (.ops [
  ⟨(some 6), (.mv (.const (.bool false))), none⟩])
 (.seq (.ops [
   ⟨(some 24), (.callF 7 []), none⟩, 
   ⟨(some 7), (.mv (.tmp 24)), none⟩])
  (.seq (.ops [
    ⟨(some 26), (.callF 8 [(.const (.int .i64 8))]), none⟩, 
    ⟨(some 25), (.mv (.tmp 26)), none⟩, 
    ⟨(some 27), (.extract (.tmp 25) 0), none⟩, 
    ⟨(some 28), (.extract (.tmp 25) 1), none⟩, 
    ⟨(some 8), (.mv (.tmp 27)), none⟩, 
    ⟨(some 9), (.mv (.tmp 28)), none⟩])
   (.seq (.seq (.ops [
      ⟨(some 29), (.mv (.tmp 8)), none⟩, 
      ⟨(some 30), (.isNil 1 false (.tmp 29)), none⟩, 
      ⟨(some 31), (.mv (.tmp 30)), none⟩, 
      ⟨(some 32), (.mv (.tmp 0)), (some (31, false))⟩, 
      ⟨(some 33), (.lenSl (.tmp 32)), (some (31, false))⟩, 
      ⟨(some 34), (.bin .gtr (.tmp 33) (.const (.int .i64 60))), (some (31, false))⟩, 
      ⟨(some 35), (.pick (.tmp 31) (.const (.bool true)) (.tmp 34)), none⟩, 
      ⟨(some 36), (.mv (.tmp 35)), none⟩, 
      ⟨(some 37), (.mv (.tmp 1)), (some (36, false))⟩, 
      ⟨(some 38), (.lenSl (.tmp 37)), (some (36, false))⟩, 
      ⟨(some 39), (.bin .gtr (.tmp 38) (.const (.int .i64 60))), (some (36, false))⟩, 
      ⟨(some 40), (.pick (.tmp 36) (.const (.bool true)) (.tmp 39)), none⟩])
     (.cond (.tmp 40)
      (.seq (.ops [
        ⟨(some 41), (.mv (.tmp 7)), none⟩, 
        ⟨(some 42), (.mv (.tmp 41)), none⟩, 
        ⟨(some 43), (.mv (.tmp 9)), (some (42, true))⟩, 
        ⟨(some 44), (.bin .eql (.tmp 43) (.const (.int .i64 0))), (some (42, true))⟩, 
        ⟨(some 45), (.pick (.tmp 42) (.tmp 44) (.const (.bool false))), none⟩, 
        ⟨(some 6), (.mv (.tmp 45)), none⟩])
       .ret)
      .skip))
    (.seq (.ops [
      ⟨(some 47), (.callF 9 [(.const (.int .i64 8))]), none⟩, 
      ⟨(some 46), (.mv (.tmp 47)), none⟩, 
      ⟨(some 48), (.extract (.tmp 46) 0), none⟩, 
      ⟨(some 49), (.extract (.tmp 46) 1), none⟩, 
      ⟨(some 10), (.mv (.tmp 48)), none⟩, 
      ⟨(some 11), (.mv (.tmp 49)), none⟩])
     (.seq (.seq (.ops [
        ⟨(some 50), (.mv (.tmp 0)), none⟩, 
        ⟨(some 51), (.lenSl (.tmp 50)), none⟩, 
        ⟨(some 52), (.mv (.const (.int .i64 0))), none⟩])
       (.block 0
        (.loop
         (.seq (.ops [
           ⟨(some 53), (.bin .lss (.tmp 52) (.tmp 51)), none⟩])
          (.seq (.cond (.tmp 53)
            .skip
            (.exit 0))
           (.seq (.block 1
             (.seq (.ops [
               ⟨(some 54), (.idxSl 4 (.tmp 50) (.tmp 52)), none⟩, 
               ⟨(some 55), (.loadN 4 (.tmp 54)), none⟩, 
               ⟨(some 13), (.new 33 [(.int .i64 0), (.int .i64 0), (.int .i64 0), (.slice none 0 0)]), none⟩, 
               ⟨none, (.storeN 4 (.tmp 13) (.tmp 55)), none⟩])
              (.seq (.ops [
                ⟨(some 56), (.fieldAddr 0 (.tmp 13)), none⟩, 
                ⟨(some 57), (.load1 (.tmp 56)), none⟩, 
                ⟨(some 58), (.bin .lss (.tmp 57) (.const (.int .i64 4))), none⟩])
               (.cond (.tmp 58)
                (.ops [
                 ⟨(some 59), (.mv (.tmp 8)), none⟩, 
                 ⟨(some 60), (.mv (.tmp 10)), none⟩, 
                 ⟨(some 61), (.loadN 4 (.tmp 13)), none⟩, 
                 ⟨(some 62), (.callF 10 [(.tmp 59), (.tmp 60), (.tmp 61)]), none⟩])
                .skip))))
            (.ops [
             ⟨(some 63), (.bin .add (.tmp 52) (.const (.int .i64 1))), none⟩, 
             ⟨(some 52), (.mv (.tmp 63)), none⟩])))))))
      (.seq (.seq (.ops [
         ⟨(some 64), (.mv (.tmp 8)), none⟩, 
         ⟨(some 65), (.callF 14 [(.tmp 64)]), none⟩, 
         ⟨(some 66), (.bin .neq (.tmp 65) (.const (.int .i64 0))), none⟩])
        (.cond (.tmp 66)
         (.seq (.ops [
           ⟨(some 6), (.mv (.const (.bool false))), none⟩])
          .ret)
         .skip))
       (.seq (.ops [
         ⟨(some 14), (.new 38 [(.string ⟨#[]⟩), (.string ⟨#[]⟩), (.string ⟨#[]⟩), (.string ⟨#[]⟩), (.string ⟨#[]⟩), (.string ⟨#[]⟩), (.string ⟨#[]⟩), (.string ⟨#[]⟩)]), none⟩, 
         ⟨(some 15), (.new 38 [(.string ⟨#[]⟩), (.string ⟨#[]⟩), (.string ⟨#[]⟩), (.string ⟨#[]⟩), (.string ⟨#[]⟩), (.string ⟨#[]⟩), (.string ⟨#[]⟩), (.string ⟨#[]⟩)]), none⟩])
        (.seq (.seq (.ops [
           ⟨(some 67), (.mv (.const (.int .i64 0))), none⟩])
          (.block 2
           (.loop
            (.seq (.ops [
              ⟨(some 68), (.bin .lss (.tmp 67) (.const (.int .i64 8))), none⟩])
             (.seq (.cond (.tmp 68)
               .skip
               (.exit 2))
              (.seq (.block 3
                (.seq (.ops [
                  ⟨(some 69), (.mv (.tmp 67)), none⟩, 
                  ⟨(some 16), (.mv (.tmp 69)), none⟩])
                 (.seq (.ops [
                   ⟨(some 71), (.mv (.tmp 8)), none⟩, 
                   ⟨(some 72), (.mv (.tmp 16)), none⟩, 
                   ⟨(some 73), (.callF 15 [(.tmp 71), (.tmp 72)]), none⟩, 
                   ⟨(some 70), (.mv (.tmp 73)), none⟩, 
                   ⟨(some 74), (.extract (.tmp 70) 0), none⟩, 
                   ⟨(some 75), (.extract (.tmp 70) 1), none⟩, 
                   ⟨(some 17), (.mv (.tmp 74)), none⟩, 
                   ⟨(some 18), (.mv (.tmp 75)), none⟩])
                  (.ops [
                   ⟨(some 76), (.mv (.tmp 16)), none⟩, 
                   ⟨(some 77), (.mv (.tmp 17)), none⟩, 
                   ⟨(some 78), (.strOfBytes (.tmp 77)), none⟩, 
                   ⟨(some 79), (.idxArrP 8 1 (.tmp 14) (.tmp 76)), none⟩, 
                   ⟨none, (.store1 (.tmp 79) (.tmp 78)), none⟩]))))
               (.ops [
                ⟨(some 80), (.bin .add (.tmp 67) (.const (.int .i64 1))), none⟩, 
                ⟨(some 67), (.mv (.tmp 80)), none⟩])))))))
         (.seq (.seq (.ops [
            ⟨(some 81), (.mv (.tmp 1)), none⟩, 
            ⟨(some 82), (.lenSl (.tmp 81)), none⟩, 
            ⟨(some 83), (.mv (.const (.int .i64 0))), none⟩])
           (.block 4
            (.loop
             (.seq (.ops [
               ⟨(some 84), (.bin .lss (.tmp 83) (.tmp 82)), none⟩])
              (.seq (.cond (.tmp 84)
                .skip
                (.exit 4))
               (.seq (.block 5
                 (.seq (.ops [
                   ⟨(some 85), (.idxSl 4 (.tmp 81) (.tmp 83)), none⟩, 
                   ⟨(some 86), (.loadN 4 (.tmp 85)), none⟩, 
                   ⟨(some 20), (.new 33 [(.int .i64 0), (.int .i64 0), (.int .i64 0), (.slice none 0 0)]), none⟩, 
                   ⟨none, (.storeN 4 (.tmp 20) (.tmp 86)), none⟩])
                  (.seq (.seq (.any [87, 88, 89, 90, 91, 92, 93, 94, 95, 96, 97, 98] [
                     ⟨(some 87), (.fieldAddr 0 (.tmp 20)), none⟩, 
                     ⟨(some 88), (.load1 (.tmp 87)), none⟩, 
                     ⟨(some 89), (.bin .lss (.tmp 88) (.const (.int .i64 2))), none⟩, 
                     ⟨(some 90), (.mv (.tmp 89)), none⟩, 
                     ⟨(some 91), (.mv (.tmp 8)), (some (90, true))⟩, 
                     ⟨(some 92), (.fieldAddr 1 (.tmp 20)), (some (90, true))⟩, 
                     ⟨(some 94), (.loadN 4 (.tmp 20)), (some (90, true))⟩])
                    (.alt
                     (.any [87, 88, 89, 90, 91, 92, 93, 94, 95, 96, 97, 98] [
                      ⟨(some 93), (.load1 (.tmp 92)), (some (90, true))⟩, 
                      ⟨(some 95), (.callF 17 [(.tmp 94)]), (some (90, true))⟩, 
                      ⟨(some 96), (.callF 16 [(.tmp 91), (.tmp 93), (.tmp 95)]), (some (90, true))⟩, 
                      ⟨(some 97), (.bin .eql (.tmp 96) (.const (.int .i64 0))), (some (90, true))⟩, 
                      ⟨(some 98), (.pick (.tmp 90) (.tmp 97) (.const (.bool false))), none⟩])
                     (.any [87, 88, 89, 90, 91, 92, 93, 94, 95, 96, 97, 98] [
                      ⟨(some 95), (.callF 17 [(.tmp 94)]), (some (90, true))⟩, 
                      ⟨(some 93), (.load1 (.tmp 92)), (some (90, true))⟩, 
                      ⟨(some 96), (.callF 16 [(.tmp 91), (.tmp 93), (.tmp 95)]), (some (90, true))⟩, 
                      ⟨(some 97), (.bin .eql (.tmp 96) (.const (.int .i64 0))), (some (90, true))⟩, 
                      ⟨(some 98), (.pick (.tmp 90) (.tmp 97) (.const (.bool false))), none⟩])))
                   (.cond (.tmp 98)
                    (.seq (.any [99, 100, 101, 102, 103, 104] [
                      ⟨(some 99), (.fieldAddr 1 (.tmp 20)), none⟩, 
                      ⟨(some 101), (.loadN 4 (.tmp 20)), none⟩])
                     (.alt
                      (.any [99, 100, 101, 102, 103, 104] [
                       ⟨(some 100), (.load1 (.tmp 99)), none⟩, 
                       ⟨(some 102), (.callF 17 [(.tmp 101)]), none⟩, 
                       ⟨(some 103), (.strOfBytes (.tmp 102)), none⟩, 
                       ⟨(some 104), (.idxArrP 8 1 (.tmp 15) (.tmp 100)), none⟩, 
                       ⟨none, (.store1 (.tmp 104) (.tmp 103)), none⟩])
                      (.any [99, 100, 101, 102, 103, 104] [
                       ⟨(some 102), (.callF 17 [(.tmp 101)]), none⟩, 
                       ⟨(some 100), (.load1 (.tmp 99)), none⟩, 
                       ⟨(some 103), (.strOfBytes (.tmp 102)), none⟩, 
                       ⟨(some 104), (.idxArrP 8 1 (.tmp 15) (.tmp 100)), none⟩, 
                       ⟨none, (.store1 (.tmp 104) (.tmp 103)), none⟩])))
                    .skip))))
                (.ops [
                 ⟨(some 105), (.bin .add (.tmp 83) (.const (.int .i64 1))), none⟩, 
                 ⟨(some 83), (.mv (.tmp 105)), none⟩])))))))
          (.seq (.ops [
            ⟨(some 106), (.mv (.tmp 8)), none⟩, 
            ⟨(some 107), (.mv (.tmp 2)), none⟩, 
            ⟨(some 108), (.callF 18 [(.tmp 106), (.tmp 107)]), none⟩])
           (.seq (.ops [
             ⟨(some 109), (.mv (.tmp 8)), none⟩, 
             ⟨(some 110), (.callF 11 [(.tmp 109)]), none⟩])
            (.seq (.seq (.ops [
               ⟨(some 111), (.mv (.const (.int .i64 0))), none⟩])
              (.block 6
               (.loop
                (.seq (.ops [
                  ⟨(some 112), (.bin .lss (.tmp 111) (.const (.int .i64 8))), none⟩])
                 (.seq (.cond (.tmp 112)
                   .skip
                   (.exit 6))
                  (.seq (.block 7
                    (.seq (.ops [
                      ⟨(some 113), (.mv (.tmp 111)), none⟩, 
                      ⟨(some 21), (.mv (.tmp 113)), none⟩])
                     (.seq (.ops [
                       ⟨(some 115), (.mv (.tmp 8)), none⟩, 
                       ⟨(some 116), (.mv (.tmp 21)), none⟩, 
                       ⟨(some 117), (.callF 15 [(.tmp 115), (.tmp 116)]), none⟩, 
                       ⟨(some 114), (.mv (.tmp 117)), none⟩, 
                       ⟨(some 118), (.extract (.tmp 114) 0), none⟩, 
                       ⟨(some 119), (.extract (.tmp 114) 1), none⟩, 
                       ⟨(some 22), (.mv (.tmp 118)), none⟩, 
                       ⟨(some 23), (.mv (.tmp 119)), none⟩])
                      (.seq (.any [120, 121, 122, 123, 124, 125, 126, 127, 128, 129, 130, 131, 132, 133, 134, 135, 136, 137, 138, 139, 140, 141, 142, 143] [
                        ⟨(some 120), (.mv (.tmp 23)), none⟩, 
                        ⟨(some 121), (.bin .neq (.tmp 120) (.const (.int .i64 0))), none⟩, 
                        ⟨(some 122), (.mv (.tmp 121)), none⟩, 
                        ⟨(some 123), (.mv (.tmp 22)), (some (122, false))⟩, 
                        ⟨(some 124), (.strOfBytes (.tmp 123)), (some (122, false))⟩, 
                        ⟨(some 125), (.mv (.tmp 21)), (some (122, false))⟩, 
                        ⟨(some 126), (.idxArrP 8 1 (.tmp 14) (.tmp 125)), (some (122, false))⟩, 
                        ⟨(some 127), (.load1 (.tmp 126)), (some (122, false))⟩, 
                        ⟨(some 128), (.bin .neq (.tmp 124) (.tmp 127)), (some (122, false))⟩, 
                        ⟨(some 129), (.mv (.tmp 128)), (some (122, false))⟩, 
                        ⟨(some 130), (.mv (.tmp 21)), (some (129, true))⟩, 
                        ⟨(some 131), (.idxArrP 8 1 (.tmp 15) (.tmp 130)), (some (129, true))⟩, 
                        ⟨(some 132), (.load1 (.tmp 131)), (some (129, true))⟩, 
                        ⟨(some 133), (.bin .eql (.tmp 132) (.const (.string ⟨#[]⟩))), (some (129, true))⟩, 
                        ⟨(some 134), (.mv (.tmp 133)), (some (129, true))⟩, 
                        ⟨(some 135), (.mv (.tmp 22)), (some (134, false))⟩, 
                        ⟨(some 136), (.strOfBytes (.tmp 135)), (some (134, false))⟩, 
                        ⟨(some 137), (.mv (.tmp 21)), (some (134, false))⟩, 
                        ⟨(some 138), (.idxArrP 8 1 (.tmp 15) (.tmp 137)), (some (134, false))⟩, 
                        ⟨(some 139), (.load1 (.tmp 138)), (some (134, false))⟩, 
                        ⟨(some 140), (.bin .neq (.tmp 136) (.tmp 139)), (some (134, false))⟩, 
                        ⟨(some 141), (.pick (.tmp 134) (.const (.bool true)) (.tmp 140)), (some (129, true))⟩, 
                        ⟨(some 142), (.pick (.tmp 129) (.tmp 141) (.const (.bool false))), (some (122, false))⟩, 
                        ⟨(some 143), (.pick (.tmp 122) (.const (.bool true)) (.tmp 142)), none⟩])
                       (.cond (.tmp 143)
                        (.seq (.ops [
                          ⟨(some 6), (.mv (.const (.bool false))), none⟩])
                         .ret)
                        .skip)))))
                   (.ops [
                    ⟨(some 144), (.bin .add (.tmp 111) (.const (.int .i64 1))), none⟩, 
                    ⟨(some 111), (.mv (.tmp 144)), none⟩])))))))
             (.seq (.ops [
               ⟨(some 145), (.mv (.tmp 7)), none⟩, 
               ⟨(some 146), (.mv (.tmp 145)), none⟩, 
               ⟨(some 147), (.mv (.tmp 8)), (some (146, true))⟩, 
               ⟨(some 148), (.callF 19 [(.tmp 147)]), (some (146, true))⟩, 
               ⟨(some 149), (.lenSl (.tmp 148)), (some (146, true))⟩, 
               ⟨(some 150), (.bin .eql (.tmp 149) (.const (.int .i64 0))), (some (146, true))⟩, 
               ⟨(some 151), (.pick (.tmp 146) (.tmp 150) (.const (.bool false))), none⟩, 
               ⟨(some 6), (.mv (.tmp 151)), none⟩])
              .ret))))))))))))))
theorem c4 {args : Array Value} {h : Heap} {R : Ending → Heap → Prop} (ha : args.size ≤ 152) (hh : aexec Try.prog ac4 (abody [(.slot 6)] R) ⟨initFr args.toList, []⟩ h) : HCalls Try.prog 4 args h R :=
  hcalls_of Try.func4 rfl rfl (by kernel_rfl) (by kernel_rfl) ha hh
/-- 5: credenza/credenzalaw16.DiskLast -/
def ac5 : ACode :=
 (.seq (.ops [
  ⟨(some 3), (.box 33 (.tmp 1)), none⟩, 
  ⟨(some 4), (.mv (.const (.bool false))), none⟩])
 (.seq (.ops [
   ⟨(some 21), (.callF 7 []), none⟩, 
   ⟨(some 5), (.mv (.tmp 21)), none⟩])
  (.seq (.ops [
    ⟨(some 23), (.callF 8 [(.const (.int .i64 6))]), none⟩, 
    ⟨(some 22), (.mv (.tmp 23)), none⟩, 
    ⟨(some 24), (.extract (.tmp 22) 0), none⟩, 
    ⟨(some 25), (.extract (.tmp 22) 1), none⟩, 
    ⟨(some 6), (.mv (.tmp 24)), none⟩, 
    ⟨(some 7), (.mv (.tmp 25)), none⟩])
   (.seq (.seq (.ops [
      ⟨(some 26), (.mv (.tmp 6)), none⟩, 
      ⟨(some 27), (.isNil 1 false (.tmp 26)), none⟩, 
      ⟨(some 28), (.mv (.tmp 27)), none⟩, 
      ⟨(some 29), (.mv (.tmp 0)), (some (28, false))⟩, 
      ⟨(some 30), (.lenSl (.tmp 29)), (some (28, false))⟩, 
      ⟨(some 31), (.bin .gtr (.tmp 30) (.const (.int .i64 60))), (some (28, false))⟩, 
      ⟨(some 32), (.pick (.tmp 28) (.const (.bool true)) (.tmp 31)), none⟩])
     (.cond (.tmp 32)
      (.seq (.ops [
        ⟨(some 33), (.mv (.tmp 5)), none⟩, 
        ⟨(some 34), (.mv (.tmp 33)), none⟩, 
        ⟨(some 35), (.mv (.tmp 7)), (some (34, true))⟩, 
        ⟨(some 36), (.bin .eql (.tmp 35) (.const (.int .i64 0))), (some (34, true))⟩, 
        ⟨(some 37), (.pick (.tmp 34) (.tmp 36) (.const (.bool false))), none⟩, 
        ⟨(some 4), (.mv (.tmp 37)), none⟩])
       .ret)
      .skip))
    (.seq (.ops [
      ⟨(some 39), (.callF 9 [(.const (.int .i64 6))]), none⟩, 
      ⟨(some 38), (.mv (.tmp 39)), none⟩, 
      ⟨(some 40), (.extract (.tmp 38) 0), none⟩, 
      ⟨(some 41), (.extract (.tmp 38) 1), none⟩, 
      ⟨(some 8), (.mv (.tmp 40)), none⟩, 
      ⟨(some 9), (.mv (.tmp 41)), none⟩])
     (.seq (.seq (.ops [
        ⟨(some 42), (.mv (.tmp 0)), none⟩, 
        ⟨(some 43), (.lenSl (.tmp 42)), none⟩, 
        ⟨(some 44), (.mv (.const (.int .i64 0))), none⟩])
       (.block 0
        (.loop
         (.seq (.ops [
           ⟨(some 45), (.bin .lss (.tmp 44) (.tmp 43)), none⟩])
          (.seq (.cond (.tmp 45)
            .skip
            (.exit 0))
           (.seq (.block 1
             (.seq (.ops [
               ⟨(some 46), (.idxSl 4 (.tmp 42) (.tmp 44)), none⟩, 
               ⟨(some 47), (.loadN 4 (.tmp 46)), none⟩, 
               ⟨(some 11), (.new 33 [(.int .i64 0), (.int .i64 0), (.int .i64 0), (.slice none 0 0)]), none⟩, 
               ⟨none, (.storeN 4 (.tmp 11) (.tmp 47)), none⟩])
              (.ops [
               ⟨(some 48), (.mv (.tmp 6)), none⟩, 
               ⟨(some 49), (.mv (.tmp 8)), none⟩, 
               ⟨(some 50), (.loadN 4 (.tmp 11)), none⟩, 
               ⟨(some 51), (.callF 10 [(.tmp 48), (.tmp 49), (.tmp 50)]), none⟩])))
            (.ops [
             ⟨(some 52), (.bin .add (.tmp 44) (.const (.int .i64 1))), none⟩, 
             ⟨(some 44), (.mv (.tmp 52)), none⟩])))))))
      (.seq (.ops [
        ⟨(some 53), (.mv (.tmp 6)), none⟩, 
        ⟨(some 54), (.callF 11 [(.tmp 53)]), none⟩])
       (.seq (.ops [
         ⟨(some 12), (.new 47 [(.string ⟨#[]⟩), (.string ⟨#[]⟩), (.string ⟨#[]⟩), (.string ⟨#[]⟩), (.string ⟨#[]⟩), (.string ⟨#[]⟩)]), none⟩])
        (.seq (.seq (.ops [
           ⟨(some 55), (.mv (.const (.int .i64 0))), none⟩])
          (.block 2
           (.loop
            (.seq (.ops [
              ⟨(some 56), (.bin .lss (.tmp 55) (.const (.int .i64 6))), none⟩])
             (.seq (.cond (.tmp 56)
               .skip
               (.exit 2))
              (.seq (.block 3
                (.seq (.ops [
                  ⟨(some 57), (.mv (.tmp 55)), none⟩, 
                  ⟨(some 13), (.mv (.tmp 57)), none⟩])
                 (.seq (.ops [
                   ⟨(some 59), (.mv (.tmp 6)), none⟩, 
                   ⟨(some 60), (.mv (.tmp 13)), none⟩, 
                   ⟨(some 61), (.callF 15 [(.tmp 59), (.tmp 60)]), none⟩, 
                   ⟨(some 58), (.mv (.tmp 61)), none⟩, 
                   ⟨(some 62), (.extract (.tmp 58) 0), none⟩, 
                   ⟨(some 63), (.extract (.tmp 58) 1), none⟩, 
                   ⟨(some 14), (.mv (.tmp 62)), none⟩, 
                   ⟨(some 15), (.mv (.tmp 63)), none⟩])
                  (.ops [
                   ⟨(some 64), (.mv (.tmp 13)), none⟩, 
                   ⟨(some 65), (.mv (.tmp 14)), none⟩, 
                   ⟨(some 66), (.strOfBytes (.tmp 65)), none⟩, 
                   ⟨(some 67), (.idxArrP 6 1 (.tmp 12) (.tmp 64)), none⟩, 
                   ⟨none, (.store1 (.tmp 67) (.tmp 66)), none⟩]))))
               (.ops [
                ⟨(some 68), (.bin .add (.tmp 55) (.const (.int .i64 1))), none⟩, 
                ⟨(some 55), (.mv (.tmp 68)), none⟩])))))))
         (.seq (.ops [
           ⟨(some 69), (.loadN 4 (.tmp 3)), none⟩, 
           ⟨(some 70), (.callF 17 [(.tmp 69)]), none⟩, 
           ⟨(some 16), (.mv (.tmp 70)), none⟩])
          (.seq (.ops [
            ⟨(some 71), (.mv (.tmp 6)), none⟩, 
            ⟨(some 72), (.fieldAddr 1 (.tmp 3)), none⟩, 
            ⟨(some 73), (.load1 (.tmp 72)), none⟩, 
            ⟨(some 74), (.mv (.tmp 16)), none⟩, 
            ⟨(some 75), (.callF 16 [(.tmp 71), (.tmp 73), (.tmp 74)]), none⟩, 
            ⟨(some 17), (.mv (.tmp 75)), none⟩])
           (.seq (.seq (.ops [
              ⟨(some 76), (.mv (.tmp 17)), none⟩, 
              ⟨(some 77), (.bin .eql (.tmp 76) (.const (.int .i64 0))), none⟩])
             (.cond (.tmp 77)
              (.ops [
               ⟨(some 78), (.fieldAddr 1 (.tmp 3)), none⟩, 
               ⟨(some 79), (.load1 (.tmp 78)), none⟩, 
               ⟨(some 80), (.mv (.tmp 16)), none⟩, 
               ⟨(some 81), (.strOfBytes (.tmp 80)), none⟩, 
               ⟨(some 82), (.idxArrP 6 1 (.tmp 12) (.tmp 79)), none⟩, 
               ⟨none, (.store1 (.tmp 82) (.tmp 81)), none⟩])
              .skip))
            (.seq (.seq (.ops [
               ⟨(some 83), (.mv (.const (.int .i64 0))), none⟩])
              (.block 4
               (.loop
                (.seq (.ops [
                  ⟨(some 84), (.bin .lss (.tmp 83) (.const (.int .i64 6))), none⟩])
                 (.seq (.cond (.tmp 84)
                   .skip
                   (.exit 4))
                  (.seq (.block 5
                    (.seq (.ops [
                      ⟨(some 85), (.mv (.tmp 83)), none⟩, 
                      ⟨(some 18), (.mv (.tmp 85)), none⟩])
                     (.seq (.ops [
                       ⟨(some 87), (.mv (.tmp 6)), none⟩, 
                       ⟨(some 88), (.mv (.tmp 18)), none⟩, 
                       ⟨(some 89), (.callF 15 [(.tmp 87), (.tmp 88)]), none⟩, 
                       ⟨(some 86), (.mv (.tmp 89)), none⟩, 
                       ⟨(some 90), (.extract (.tmp 86) 0), none⟩, 
                       ⟨(some 91), (.extract (.tmp 86) 1), none⟩, 
                       ⟨(some 19), (.mv (.tmp 90)), none⟩, 
                       ⟨(some 20), (.mv (.tmp 91)), none⟩])
                      (.seq (.any [92, 93, 94, 95, 96, 97, 98, 99, 100, 101, 102, 103, 104, 105] [
                        ⟨(some 92), (.mv (.tmp 6)), none⟩, 
                        ⟨(some 93), (.callF 20 [(.tmp 92)]), none⟩, 
                        ⟨(some 94), (.mv (.tmp 93)), none⟩, 
                        ⟨(some 95), (.mv (.tmp 20)), (some (94, true))⟩, 
                        ⟨(some 96), (.bin .neq (.tmp 95) (.const (.int .i64 0))), (some (94, true))⟩, 
                        ⟨(some 97), (.mv (.tmp 96)), (some (94, true))⟩, 
                        ⟨(some 98), (.mv (.tmp 19)), (some (97, false))⟩, 
                        ⟨(some 99), (.strOfBytes (.tmp 98)), (some (97, false))⟩, 
                        ⟨(some 100), (.mv (.tmp 18)), (some (97, false))⟩, 
                        ⟨(some 101), (.idxArrP 6 1 (.tmp 12) (.tmp 100)), (some (97, false))⟩, 
                        ⟨(some 102), (.load1 (.tmp 101)), (some (97, false))⟩, 
                        ⟨(some 103), (.bin .neq (.tmp 99) (.tmp 102)), (some (97, false))⟩, 
                        ⟨(some 104), (.pick (.tmp 97) (.const (.bool true)) (.tmp 103)), (some (94, true))⟩, 
                        ⟨(some 105), (.pick (.tmp 94) (.tmp 104) (.const (.bool false))), none⟩])
                       (.cond (.tmp 105)
                        (.seq (.ops [
                          ⟨(some 4), (.mv (.const (.bool false))), none⟩])
                         .ret)
                        .skip)))))
                   (.ops [
                    ⟨(some 106), (.bin .add (.tmp 83) (.const (.int .i64 1))), none⟩, 
                    ⟨(some 83), (.mv (.tmp 106)), none⟩])))))))
             (.seq (.ops [
               ⟨(some 107), (.mv (.tmp 5)), none⟩, 
               ⟨(some 108), (.mv (.tmp 107)), none⟩, 
               ⟨(some 109), (.mv (.tmp 17)), (some (108, true))⟩, 
               ⟨(some 110), (.bin .eql (.tmp 109) (.const (.int .i64 0))), (some (108, true))⟩, 
               ⟨(some 111), (.mv (.tmp 110)), (some (108, true))⟩, 
               ⟨(some 112), (.mv (.tmp 17)), (some (111, false))⟩, 
               ⟨(some 113), (.bin .neq (.tmp 112) (.const (.int .i64 160))), (some (111, false))⟩, 
               ⟨(some 114), (.pick (.tmp 111) (.const (.bool true)) (.tmp 113)), (some (108, true))⟩, 
               ⟨(some 115), (.mv (.tmp 114)), (some (108, true))⟩, 
               ⟨(some 116), (.mv (.tmp 6)), (some (115, false))⟩, 
               ⟨(some 117), (.callF 20 [(.tmp 116)]), (some (115, false))⟩, 
               ⟨(some 118), (.un .not (.tmp 117)), (some (115, false))⟩, 
               ⟨(some 119), (.pick (.tmp 115) (.const (.bool true)) (.tmp 118)), (some (108, true))⟩, 
               ⟨(some 120), (.pick (.tmp 108) (.tmp 119) (.const (.bool false))), none⟩, 
               ⟨(some 4), (.mv (.tmp 120)), none⟩])
              .ret))))))))))))))
theorem c5 {args : Array Value} {h : Heap} {R : Ending → Heap → Prop} (ha : args.size ≤ 121) (hh : aexec Try.prog ac5 (abody [(.slot 4)] R) ⟨initFr args.toList, []⟩ h) : HCalls Try.prog 5 args h R :=
  hcalls_of Try.func5 rfl rfl (by kernel_rfl) (by kernel_rfl) ha hh
/-- 6: credenza/credenzalaw16.DiskClones -/
def ac6 : ACode :=
 (.seq (.ops [
  ⟨(some 4), (.mv (.const (.bool false))), none⟩])
 (.seq (.ops [
   ⟨(some 26), (.callF 7 []), none⟩, 
   ⟨(some 5), (.mv (.tmp 26)), none⟩])
  (.seq (.ops [
    ⟨(some 28), (.callF 8 [(.const (.int .i64 6))]), none⟩, 
    ⟨(some 27), (.mv (.tmp 28)), none⟩, 
    ⟨(some 29), (.extract (.tmp 27) 0), none⟩, 
    ⟨(some 30), (.extract (.tmp 27) 1), none⟩, 
    ⟨(some 6), (.mv (.tmp 29)), none⟩, 
    ⟨(some 7), (.mv (.tmp 30)), none⟩])
   (.seq (.seq (.ops [
      ⟨(some 31), (.mv (.tmp 6)), none⟩, 
      ⟨(some 32), (.isNil 1 false (.tmp 31)), none⟩, 
      ⟨(some 33), (.mv (.tmp 32)), none⟩, 
      ⟨(some 34), (.mv (.tmp 0)), (some (33, false))⟩, 
      ⟨(some 35), (.lenSl (.tmp 34)), (some (33, false))⟩, 
      ⟨(some 36), (.bin .gtr (.tmp 35) (.const (.int .i64 60))), (some (33, false))⟩, 
      ⟨(some 37), (.pick (.tmp 33) (.const (.bool true)) (.tmp 36)), none⟩, 
      ⟨(some 38), (.mv (.tmp 37)), none⟩, 
      ⟨(some 39), (.mv (.tmp 1)), (some (38, false))⟩, 
      ⟨(some 40), (.lenSl (.tmp 39)), (some (38, false))⟩, 
      ⟨(some 41), (.bin .gtr (.tmp 40) (.const (.int .i64 60))), (some (38, false))⟩, 
      ⟨(some 42), (.pick (.tmp 38) (.const (.bool true)) (.tmp 41)), none⟩])
     (.cond (.tmp 42)
      (.seq (.ops [
        ⟨(some 43), (.mv (.tmp 5)), none⟩, 
        ⟨(some 44), (.mv (.tmp 43)), none⟩, 
        ⟨(some 45), (.mv (.tmp 7)), (some (44, true))⟩, 
        ⟨(some 46), (.bin .eql (.tmp 45) (.const (.int .i64 0))), (some (44, true))⟩, 
        ⟨(some 47), (.pick (.tmp 44) (.tmp 46) (.const (.bool false))), none⟩, 
        ⟨(some 4), (.mv (.tmp 47)), none⟩])
       .ret)
      .skip))
    (.seq (.ops [
      ⟨(some 49), (.callF 9 [(.const (.int .i64 6))]), none⟩, 
      ⟨(some 48), (.mv (.tmp 49)), none⟩, 
      ⟨(some 50), (.extract (.tmp 48) 0), none⟩, 
      ⟨(some 51), (.extract (.tmp 48) 1), none⟩, 
      ⟨(some 8), (.mv (.tmp 50)), none⟩, 
      ⟨(some 9), (.mv (.tmp 51)), none⟩])
     (.seq (.seq (.ops [
        ⟨(some 52), (.mv (.tmp 0)), none⟩, 
        ⟨(some 53), (.lenSl (.tmp 52)), none⟩, 
        ⟨(some 54), (.mv (.const (.int .i64 0))), none⟩])
       (.block 0
        (.loop
         (.seq (.ops [
           ⟨(some 55), (.bin .lss (.tmp 54) (.tmp 53)), none⟩])
          (.seq (.cond (.tmp 55)
            .skip
            (.exit 0))
           (.seq (.block 1
             (.seq (.ops [
               ⟨(some 56), (.idxSl 4 (.tmp 52) (.tmp 54)), none⟩, 
               ⟨(some 57), (.loadN 4 (.tmp 56)), none⟩, 
               ⟨(some 11), (.new 33 [(.int .i64 0), (.int .i64 0), (.int .i64 0), (.slice none 0 0)]), none⟩, 
               ⟨none, (.storeN 4 (.tmp 11) (.tmp 57)), none⟩])
              (.ops [
               ⟨(some 58), (.mv (.tmp 6)), none⟩, 
               ⟨(some 59), (.mv (.tmp 8)), none⟩, 
               ⟨(some 60), (.loadN 4 (.tmp 11)), none⟩, 
               ⟨(some 61), (.callF 10 [(.tmp 58), (.tmp 59), (.tmp 60)]), none⟩])))
            (.ops [
             ⟨(some 62), (.bin .add (.tmp 54) (.const (.int .i64 1))), none⟩, 
             ⟨(some 54), (.mv (.tmp 62)), none⟩])))))))
      (.seq (.ops [
        ⟨(some 63), (.mv (.tmp 6)), none⟩, 
        ⟨(some 64), (.callF 21 [(.tmp 63)]), none⟩, 
        ⟨(some 12), (.mv (.tmp 64)), none⟩])
       (.seq (.seq (.ops [
          ⟨(some 65), (.mv (.tmp 12)), none⟩, 
          ⟨(some 66), (.isNil 1 false (.tmp 65)), none⟩, 
          ⟨(some 67), (.mv (.tmp 66)), none⟩, 
          ⟨(some 68), (.mv (.tmp 12)), (some (67, false))⟩, 
          ⟨(some 69), (.callF 20 [(.tmp 68)]), (some (67, false))⟩, 
          ⟨(some 70), (.mv (.tmp 6)), (some (67, false))⟩, 
          ⟨(some 71), (.callF 20 [(.tmp 70)]), (some (67, false))⟩, 
          ⟨(some 72), (.eqB true (.tmp 69) (.tmp 71)), (some (67, false))⟩, 
          ⟨(some 73), (.pick (.tmp 67) (.const (.bool true)) (.tmp 72)), none⟩, 
          ⟨(some 74), (.mv (.tmp 73)), none⟩, 
          ⟨(some 75), (.mv (.tmp 12)), (some (74, false))⟩, 
          ⟨(some 76), (.callF 22 [(.tmp 75)]), (some (74, false))⟩, 
          ⟨(some 77), (.mv (.tmp 6)), (some (74, false))⟩, 
          ⟨(some 78), (.callF 22 [(.tmp 77)]), (some (74, false))⟩, 
          ⟨(some 79), (.bin .neq (.tmp 76) (.tmp 78)), (some (74, false))⟩, 
          ⟨(some 80), (.pick (.tmp 74) (.const (.bool true)) (.tmp 79)), none⟩, 
          ⟨(some 81), (.mv (.tmp 80)), none⟩, 
          ⟨(some 82), (.mv (.tmp 12)), (some (81, false))⟩, 
          ⟨(some 83), (.callF 19 [(.tmp 82)]), (some (81, false))⟩, 
          ⟨(some 84), (.mv (.tmp 6)), (some (81, false))⟩, 
          ⟨(some 85), (.callF 19 [(.tmp 84)]), (some (81, false))⟩, 
          ⟨(some 86), (.callF 23 [(.tmp 83), (.tmp 85)]), (some (81, false))⟩, 
          ⟨(some 87), (.un .not (.tmp 86)), (some (81, false))⟩, 
          ⟨(some 88), (.pick (.tmp 81) (.const (.bool true)) (.tmp 87)), none⟩])
         (.cond (.tmp 88)
          (.seq (.ops [
            ⟨(some 4), (.mv (.const (.bool false))), none⟩])
           .ret)
          .skip))
        (.seq (.seq (.ops [
           ⟨(some 89), (.mv (.tmp 1)), none⟩, 
           ⟨(some 90), (.lenSl (.tmp 89)), none⟩, 
           ⟨(some 91), (.mv (.const (.int .i64 0))), none⟩])
          (.block 2
           (.loop
            (.seq (.ops [
              ⟨(some 92), (.bin .lss (.tmp 91) (.tmp 90)), none⟩])
             (.seq (.cond (.tmp 92)
               .skip
               (.exit 2))
              (.seq (.block 3
                (.seq (.ops [
                  ⟨(some 93), (.idxSl 4 (.tmp 89) (.tmp 91)), none⟩, 
                  ⟨(some 94), (.loadN 4 (.tmp 93)), none⟩, 
                  ⟨(some 14), (.new 33 [(.int .i64 0), (.int .i64 0), (.int .i64 0), (.slice none 0 0)]), none⟩, 
                  ⟨none, (.storeN 4 (.tmp 14) (.tmp 94)), none⟩])
                 (.ops [
                  ⟨(some 95), (.mv (.tmp 12)), none⟩, 
                  ⟨(some 96), (.mv (.tmp 8)), none⟩, 
                  ⟨(some 97), (.loadN 4 (.tmp 14)), none⟩, 
                  ⟨(some 98), (.callF 10 [(.tmp 95), (.tmp 96), (.tmp 97)]), none⟩])))
               (.ops [
                ⟨(some 99), (.bin .add (.tmp 91) (.const (.int .i64 1))), none⟩, 
                ⟨(some 91), (.mv (.tmp 99)), none⟩])))))))
         (.seq (.ops [
           ⟨(some 101), (.callF 9 [(.const (.int .i64 6))]), none⟩, 
           ⟨(some 100), (.mv (.tmp 101)), none⟩, 
           ⟨(some 102), (.extract (.tmp 100) 0), none⟩, 
           ⟨(some 103), (.extract (.tmp 100) 1), none⟩, 
           ⟨(some 15), (.mv (.tmp 102)), none⟩, 
           ⟨(some 16), (.mv (.tmp 103)), none⟩])
          (.seq (.ops [
            ⟨(some 105), (.callF 8 [(.const (.int .i64 6))]), none⟩, 
            ⟨(some 104), (.mv (.tmp 105)), none⟩, 
            ⟨(some 106), (.extract (.tmp 104) 0), none⟩, 
            ⟨(some 107), (.extract (.tmp 104) 1), none⟩, 
            ⟨(some 17), (.mv (.tmp 106)), none⟩, 
            ⟨(some 18), (.mv (.tmp 107)), none⟩])
           (.seq (.seq (.ops [
              ⟨(some 108), (.mv (.tmp 17)), none⟩, 
              ⟨(some 109), (.isNil 1 false (.tmp 108)), none⟩, 
              ⟨(some 110), (.mv (.tmp 109)), none⟩, 
              ⟨(some 111), (.mv (.tmp 18)), (some (110, false))⟩, 
              ⟨(some 112), (.bin .neq (.tmp 111) (.const (.int .i64 0))), (some (110, false))⟩, 
              ⟨(some 113), (.pick (.tmp 110) (.const (.bool true)) (.tmp 112)), none⟩])
             (.cond (.tmp 113)
              (.seq (.ops [
                ⟨(some 4), (.mv (.const (.bool false))), none⟩])
               .ret)
              .skip))
            (.seq (.seq (.ops [
               ⟨(some 114), (.mv (.tmp 0)), none⟩, 
               ⟨(some 115), (.lenSl (.tmp 114)), none⟩, 
               ⟨(some 116), (.mv (.const (.int .i64 0))), none⟩])
              (.block 4
               (.loop
                (.seq (.ops [
                  ⟨(some 117), (.bin .lss (.tmp 116) (.tmp 115)), none⟩])
                 (.seq (.cond (.tmp 117)
                   .skip
                   (.exit 4))
                  (.seq (.block 5
                    (.seq (.ops [
                      ⟨(some 118), (.idxSl 4 (.tmp 114) (.tmp 116)), none⟩, 
                      ⟨(some 119), (.loadN 4 (.tmp 118)), none⟩, 
                      ⟨(some 20), (.new 33 [(.int .i64 0), (.int .i64 0), (.int .i64 0), (.slice none 0 0)]), none⟩, 
                      ⟨none, (.storeN 4 (.tmp 20) (.tmp 119)), none⟩])
                     (.ops [
                      ⟨(some 120), (.mv (.tmp 17)), none⟩, 
                      ⟨(some 121), (.mv (.tmp 15)), none⟩, 
                      ⟨(some 122), (.loadN 4 (.tmp 20)), none⟩, 
                      ⟨(some 123), (.callF 10 [(.tmp 120), (.tmp 121), (.tmp 122)]), none⟩])))
                   (.ops [
                    ⟨(some 124), (.bin .add (.tmp 116) (.const (.int .i64 1))), none⟩, 
                    ⟨(some 116), (.mv (.tmp 124)), none⟩])))))))
             (.seq (.ops [
               ⟨(some 125), (.mv (.tmp 6)), none⟩, 
               ⟨(some 126), (.callF 11 [(.tmp 125)]), none⟩])
              (.seq (.ops [
                ⟨(some 127), (.mv (.tmp 17)), none⟩, 
                ⟨(some 128), (.callF 11 [(.tmp 127)]), none⟩])
               (.seq (.seq (.ops [
                  ⟨(some 129), (.mv (.const (.int .i64 0))), none⟩])
                 (.block 6
                  (.loop
                   (.seq (.ops [
                     ⟨(some 130), (.bin .lss (.tmp 129) (.const (.int .i64 6))), none⟩])
                    (.seq (.cond (.tmp 130)
                      .skip
                      (.exit 6))
                     (.seq (.block 7
                       (.seq (.ops [
                         ⟨(some 131), (.mv (.tmp 129)), none⟩, 
                         ⟨(some 21), (.mv (.tmp 131)), none⟩])
                        (.seq (.ops [
                          ⟨(some 133), (.mv (.tmp 6)), none⟩, 
                          ⟨(some 134), (.mv (.tmp 21)), none⟩, 
                          ⟨(some 135), (.callF 15 [(.tmp 133), (.tmp 134)]), none⟩, 
                          ⟨(some 132), (.mv (.tmp 135)), none⟩, 
                          ⟨(some 136), (.extract (.tmp 132) 0), none⟩, 
                          ⟨(some 137), (.extract (.tmp 132) 1), none⟩, 
                          ⟨(some 22), (.mv (.tmp 136)), none⟩, 
                          ⟨(some 23), (.mv (.tmp 137)), none⟩])
                         (.seq (.ops [
                           ⟨(some 139), (.mv (.tmp 17)), none⟩, 
                           ⟨(some 140), (.mv (.tmp 21)), none⟩, 
                           ⟨(some 141), (.callF 15 [(.tmp 139), (.tmp 140)]), none⟩, 
                           ⟨(some 138), (.mv (.tmp 141)), none⟩, 
                           ⟨(some 142), (.extract (.tmp 138) 0), none⟩, 
                           ⟨(some 143), (.extract (.tmp 138) 1), none⟩, 
                           ⟨(some 24), (.mv (.tmp 142)), none⟩, 
                           ⟨(some 25), (.mv (.tmp 143)), none⟩])
                          (.seq (.ops [
                            ⟨(some 144), (.mv (.tmp 22)), none⟩, 
                            ⟨(some 145), (.mv (.tmp 24)), none⟩, 
                            ⟨(some 146), (.callF 24 [(.tmp 144), (.tmp 145)]), none⟩, 
                            ⟨(some 147), (.un .not (.tmp 146)), none⟩])
                           (.cond (.tmp 147)
                            (.seq (.ops [
                              ⟨(some 4), (.mv (.const (.bool false))), none⟩])
                             .ret)
                            .skip))))))
                      (.ops [
                       ⟨(some 148), (.bin .add (.tmp 129) (.const (.int .i64 1))), none⟩, 
                       ⟨(some 129), (.mv (.tmp 148)), none⟩])))))))
                (.seq (.ops [
                  ⟨(some 149), (.mv (.tmp 5)), none⟩, 
                  ⟨(some 4), (.mv (.tmp 149)), none⟩])
                 .ret)))))))))))))))))
theorem c6 {args : Array Value} {h : Heap} {R : Ending → Heap → Prop} (ha : args.size ≤ 150) (hh : aexec Try.prog ac6 (abody [(.slot 4)] R) ⟨initFr args.toList, []⟩ h) : HCalls Try.prog 6 args h R :=
  hcalls_of Try.func6 rfl rfl (by kernel_rfl) (by kernel_rfl) ha hh
/-- 7: credenza/credenzalaw16.live -/
def ac7 : ACode :=
 (.seq (.ops [
  ⟨(some 0), (.mv (.const (.bool false))), none⟩])
 (.seq (.ops [
   ⟨(some 12), (.callF 8 [(.const (.int .i64 4))]), none⟩, 
   ⟨(some 11), (.mv (.tmp 12)), none⟩, 
   ⟨(some 13), (.extract (.tmp 11) 0), none⟩, 
   ⟨(some 14), (.extract (.tmp 11) 1), none⟩, 
   ⟨(some 1), (.mv (.tmp 13)), none⟩, 
   ⟨(some 2), (.mv (.tmp 14)), none⟩])
  (.seq (.seq (.ops [
     ⟨(some 15), (.mv (.tmp 1)), none⟩, 
     ⟨(some 16), (.isNil 1 false (.tmp 15)), none⟩, 
     ⟨(some 17), (.mv (.tmp 16)), none⟩, 
     ⟨(some 18), (.mv (.tmp 2)), (some (17, false))⟩, 
     ⟨(some 19), (.bin .neq (.tmp 18) (.const (.int .i64 0))), (some (17, false))⟩, 
     ⟨(some 20), (.pick (.tmp 17) (.const (.bool true)) (.tmp 19)), none⟩])
    (.cond (.tmp 20)
     (.seq (.ops [
       ⟨(some 0), (.mv (.const (.bool false))), none⟩])
      .ret)
     .skip))
   (.seq (.ops [
     ⟨(some 21), (.mv (.tmp 1)), none⟩, 
     ⟨(some 22), (.callF 25 [(.const (.int .u8 1))]), none⟩, 
     ⟨(some 23), (.callF 16 [(.tmp 21), (.const (.int .i64 0)), (.tmp 22)]), none⟩])
    (.seq (.ops [
      ⟨(some 24), (.mv (.tmp 1)), none⟩, 
      ⟨(some 25), (.callF 25 [(.const (.int .u8 2))]), none⟩, 
      ⟨(some 26), (.callF 16 [(.tmp 24), (.const (.int .i64 3)), (.tmp 25)]), none⟩])
     (.seq (.ops [
       ⟨(some 27), (.mv (.tmp 1)), none⟩, 
       ⟨(some 28), (.buildSlice 5 2 [(.int .u8 0), (.int .u8 0)] [(0, 1, (.const (.int .u8 1))), (1, 1, (.const (.int .u8 0)))]), none⟩, 
       ⟨(some 29), (.callF 18 [(.tmp 27), (.tmp 28)]), none⟩])
      (.seq (.ops [
        ⟨(some 31), (.mv (.tmp 1)), none⟩, 
        ⟨(some 32), (.callF 15 [(.tmp 31), (.const (.int .i64 0))]), none⟩, 
        ⟨(some 30), (.mv (.tmp 32)), none⟩, 
        ⟨(some 33), (.extract (.tmp 30) 0), none⟩, 
        ⟨(some 34), (.extract (.tmp 30) 1), none⟩, 
        ⟨(some 3), (.mv (.tmp 33)), none⟩, 
        ⟨(some 4), (.mv (.tmp 34)), none⟩])
       (.seq (.ops [
         ⟨(some 35), (.mv (.tmp 1)), none⟩, 
         ⟨(some 36), (.callF 11 [(.tmp 35)]), none⟩])
        (.seq (.ops [
          ⟨(some 38), (.mv (.tmp 1)), none⟩, 
          ⟨(some 39), (.callF 15 [(.tmp 38), (.const (.int .i64 0))]), none⟩, 
          ⟨(some 37), (.mv (.tmp 39)), none⟩, 
          ⟨(some 40), (.extract (.tmp 37) 0), none⟩, 
          ⟨(some 41), (.extract (.tmp 37) 1), none⟩, 
          ⟨(some 5), (.mv (.tmp 40)), none⟩, 
          ⟨(some 6), (.mv (.tmp 41)), none⟩])
         (.seq (.ops [
           ⟨(some 43), (.mv (.tmp 1)), none⟩, 
           ⟨(some 44), (.callF 15 [(.tmp 43), (.const (.int .i64 3))]), none⟩, 
           ⟨(some 42), (.mv (.tmp 44)), none⟩, 
           ⟨(some 45), (.extract (.tmp 42) 0), none⟩, 
           ⟨(some 46), (.extract (.tmp 42) 1), none⟩, 
           ⟨(some 7), (.mv (.tmp 45)), none⟩, 
           ⟨(some 8), (.mv (.tmp 46)), none⟩])
          (.seq (.ops [
            ⟨(some 47), (.mv (.tmp 1)), none⟩, 
            ⟨(some 48), (.callF 26 [(.tmp 47), (.const (.int .i64 1))]), none⟩])
           (.seq (.ops [
             ⟨(some 49), (.mv (.tmp 1)), none⟩, 
             ⟨(some 50), (.callF 25 [(.const (.int .u8 3))]), none⟩, 
             ⟨(some 51), (.callF 16 [(.tmp 49), (.const (.int .i64 1)), (.tmp 50)]), none⟩, 
             ⟨(some 9), (.mv (.tmp 51)), none⟩])
            (.seq (.ops [
              ⟨(some 52), (.mv (.tmp 1)), none⟩, 
              ⟨(some 53), (.callF 14 [(.tmp 52)]), none⟩, 
              ⟨(some 10), (.mv (.tmp 53)), none⟩])
             (.seq (.ops [
               ⟨(some 54), (.mv (.tmp 4)), none⟩, 
               ⟨(some 55), (.bin .eql (.tmp 54) (.const (.int .i64 160))), none⟩, 
               ⟨(some 56), (.mv (.tmp 55)), none⟩, 
               ⟨(some 57), (.mv (.tmp 5)), (some (56, true))⟩, 
               ⟨(some 58), (.callF 25 [(.const (.int .u8 1))]), (some (56, true))⟩, 
               ⟨(some 59), (.callF 24 [(.tmp 57), (.tmp 58)]), (some (56, true))⟩, 
               ⟨(some 60), (.pick (.tmp 56) (.tmp 59) (.const (.bool false))), none⟩, 
               ⟨(some 61), (.mv (.tmp 60)), none⟩, 
               ⟨(some 62), (.mv (.tmp 7)), (some (61, true))⟩, 
               ⟨(some 63), (.callF 25 [(.const (.int .u8 0))]), (some (61, true))⟩, 
               ⟨(some 64), (.callF 24 [(.tmp 62), (.tmp 63)]), (some (61, true))⟩, 
               ⟨(some 65), (.pick (.tmp 61) (.tmp 64) (.const (.bool false))), none⟩, 
               ⟨(some 66), (.mv (.tmp 65)), none⟩, 
               ⟨(some 67), (.mv (.tmp 9)), (some (66, true))⟩, 
               ⟨(some 68), (.bin .eql (.tmp 67) (.const (.int .i64 0))), (some (66, true))⟩, 
               ⟨(some 69), (.pick (.tmp 66) (.tmp 68) (.const (.bool false))), none⟩, 
               ⟨(some 70), (.mv (.tmp 69)), none⟩, 
               ⟨(some 71), (.mv (.tmp 10)), (some (70, true))⟩, 
               ⟨(some 72), (.bin .eql (.tmp 71) (.const (.int .i64 160))), (some (70, true))⟩, 
               ⟨(some 73), (.pick (.tmp 70) (.tmp 72) (.const (.bool false))), none⟩, 
               ⟨(some 74), (.mv (.tmp 73)), none⟩, 
               ⟨(some 75), (.mv (.tmp 1)), (some (74, true))⟩, 
               ⟨(some 76), (.callF 20 [(.tmp 75)]), (some (74, true))⟩, 
               ⟨(some 77), (.un .not (.tmp 76)), (some (74, true))⟩, 
               ⟨(some 78), (.pick (.tmp 74) (.tmp 77) (.const (.bool false))), none⟩, 
               ⟨(some 79), (.mv (.tmp 78)), none⟩, 
               ⟨(some 80), (.mv (.tmp 1)), (some (79, true))⟩, 
               ⟨(some 81), (.callF 27 [(.tmp 80)]), (some (79, true))⟩, 
               ⟨(some 82), (.bin .eql (.tmp 81) (.const (.int .i64 4))), (some (79, true))⟩, 
               ⟨(some 83), (.pick (.tmp 79) (.tmp 82) (.const (.bool false))), none⟩, 
               ⟨(some 84), (.mv (.tmp 83)), none⟩, 
               ⟨(some 85), (.mv (.tmp 1)), (some (84, true))⟩, 
               ⟨(some 86), (.callF 22 [(.tmp 85)]), (some (84, true))⟩, 
               ⟨(some 87), (.bin .eql (.tmp 86) (.const (.int .i64 3))), (some (84, true))⟩, 
               ⟨(some 88), (.pick (.tmp 84) (.tmp 87) (.const (.bool false))), none⟩, 
               ⟨(some 0), (.mv (.tmp 88)), none⟩])
              .ret))))))))))))))
theorem c7 {args : Array Value} {h : Heap} {R : Ending → Heap → Prop} (ha : args.size ≤ 89) (hh : aexec Try.prog ac7 (abody [(.slot 0)] R) ⟨initFr args.toList, []⟩ h) : HCalls Try.prog 7 args h R :=
  hcalls_of Try.func7 rfl rfl (by kernel_rfl) (by kernel_rfl) ha hh
/-- 8: credenza/disk.New -/
def ac8 : ACode :=
 (.seq (.ops [
  ⟨(some 2), (.mv (.const (.pointer none))), none⟩, 
  ⟨(some 3), (.mv (.const (.int .i64 0))), none⟩])
 (.seq (.seq (.ops [
    ⟨(some 4), (.mv (.tmp 0)), none⟩, 
    ⟨(some 5), (.bin .lss (.tmp 4) (.const (.int .i64 1))), none⟩, 
    ⟨(some 6), (.mv (.tmp 5)), none⟩, 
    ⟨(some 7), (.mv (.tmp 0)), (some (6, false))⟩, 
    ⟨(some 8), (.bin .gtr (.tmp 7) (.const (.int .i64 2048))), (some (6, false))⟩, 
    ⟨(some 9), (.pick (.tmp 6) (.const (.bool true)) (.tmp 8)), none⟩])
   (.cond (.tmp 9)
    (.seq (.ops [
      ⟨(some 2), (.mv (.const (.pointer none))), none⟩, 
      ⟨(some 3), (.mv (.const (.int .i64 1))), none⟩])
     .ret)
    .skip))
  (.seq (.ops [
    ⟨(some 10), (.mv (.tmp 0)), none⟩, 
    ⟨(some 11), .mkMap, none⟩, 
    ⟨(some 12), .mkMap, none⟩, 
    ⟨(some 13), (.build [(.int .i64 0), (.int .i64 0), (.int .i64 0), (.map none), (.map none), (.bool false)] [(0, 1, (.tmp 10)), (2, 1, (.const (.int .i64 (-1)))), (3, 1, (.tmp 11)), (4, 1, (.tmp 12))]), none⟩, 
    ⟨(some 14), (.box 57 (.tmp 13)), none⟩, 
    ⟨(some 2), (.mv (.tmp 14)), none⟩, 
    ⟨(some 3), (.mv (.const (.int .i64 0))), none⟩])
   .ret)))
theorem c8 {args : Array Value} {h : Heap} {R : Ending → Heap → Prop} (ha : args.size ≤ 15) (hh : aexec Try.prog ac8 (abody [(.slot 2), (.slot 3)] R) ⟨initFr args.toList, []⟩ h) : HCalls Try.prog 8 args h R :=
  hcalls_of Try.func8 rfl rfl (by kernel_rfl) (by kernel_rfl) ha hh
/-- 9: credenza/credenzaref16.New -/
def ac9 : ACode :=
 (.seq (.ops [
  ⟨(some 2), (.mv (.const (.pointer none))), none⟩, 
  ⟨(some 3), (.mv (.const (.int .i64 0))), none⟩])
 (.seq (.seq (.ops [
    ⟨(some 6), (.mv (.tmp 0)), none⟩, 
    ⟨(some 7), (.bin .lss (.tmp 6) (.const (.int .i64 1))), none⟩, 
    ⟨(some 8), (.mv (.tmp 7)), none⟩, 
    ⟨(some 9), (.mv (.tmp 0)), (some (8, false))⟩, 
    ⟨(some 10), (.bin .gtr (.tmp 9) (.const (.int .i64 2048))), (some (8, false))⟩, 
    ⟨(some 11), (.pick (.tmp 8) (.const (.bool true)) (.tmp 10)), none⟩])
   (.cond (.tmp 11)
    (.seq (.ops [
      ⟨(some 2), (.mv (.const (.pointer none))), none⟩, 
      ⟨(some 3), (.mv (.const (.int .i64 1))), none⟩])
     .ret)
    .skip))
  (.seq (.ops [
    ⟨(some 12), (.build [(.slice none 0 0), (.slice none 0 0), (.bool false), (.int .i64 0), (.int .i64 0)] [(3, 1, (.const (.int .i64 (-1))))]), none⟩, 
    ⟨(some 13), (.box 60 (.tmp 12)), none⟩, 
    ⟨(some 4), (.mv (.tmp 13)), none⟩])
   (.seq (.ops [
     ⟨(some 14), (.mkSlice 5 1 1 [(.int .u8 0)] (.const (.int .i64 4096)) (.const (.int .i64 4096))), none⟩, 
     ⟨(some 15), (.strOfBytes (.tmp 14)), none⟩, 
     ⟨(some 5), (.mv (.tmp 15)), none⟩])
    (.seq (.seq (.ops [
       ⟨(some 16), (.mv (.tmp 0)), none⟩, 
       ⟨(some 17), (.mv (.const (.int .i64 0))), none⟩])
      (.block 0
       (.loop
        (.seq (.ops [
          ⟨(some 18), (.bin .lss (.tmp 17) (.tmp 16)), none⟩])
         (.seq (.cond (.tmp 18)
           .skip
           (.exit 0))
          (.seq (.block 1
            (.seq (.ops [
              ⟨(some 19), (.mv (.tmp 4)), none⟩, 
              ⟨(some 20), (.mv (.tmp 4)), none⟩, 
              ⟨(some 21), (.nilCheck (.tmp 20)), none⟩, 
              ⟨(some 22), (.fieldAddr 0 (.tmp 21)), none⟩, 
              ⟨(some 23), (.load1 (.tmp 22)), none⟩, 
              ⟨(some 24), (.mv (.tmp 5)), none⟩, 
              ⟨(some 25), (.buildSlice 9 1 [(.string ⟨#[]⟩)] [(0, 1, (.tmp 24))]), none⟩, 
              ⟨(some 26), (.append 9 1 16 [(.string ⟨#[]⟩)] (.tmp 23) (.tmp 25)), none⟩, 
              ⟨(some 27), (.nilCheck (.tmp 19)), none⟩, 
              ⟨(some 28), (.fieldAddr 0 (.tmp 27)), none⟩, 
              ⟨none, (.store1 (.tmp 28) (.tmp 26)), none⟩])
             (.ops [
              ⟨(some 29), (.mv (.tmp 4)), none⟩, 
              ⟨(some 30), (.mv (.tmp 4)), none⟩, 
              ⟨(some 31), (.nilCheck (.tmp 30)), none⟩, 
              ⟨(some 32), (.fieldAddr 1 (.tmp 31)), none⟩, 
              ⟨(some 33), (.load1 (.tmp 32)), none⟩, 
              ⟨(some 34), (.buildSlice 9 1 [(.string ⟨#[]⟩)] [(0, 1, (.const (.string ⟨#[]⟩)))]), none⟩, 
              ⟨(some 35), (.append 9 1 16 [(.string ⟨#[]⟩)] (.tmp 33) (.tmp 34)), none⟩, 
              ⟨(some 36), (.nilCheck (.tmp 29)), none⟩, 
              ⟨(some 37), (.fieldAddr 1 (.tmp 36)), none⟩, 
              ⟨none, (.store1 (.tmp 37) (.tmp 35)), none⟩])))
           (.ops [
            ⟨(some 38), (.bin .add (.tmp 17) (.const (.int .i64 1))), none⟩, 
            ⟨(some 17), (.mv (.tmp 38)), none⟩])))))))
     (.seq (.ops [
       ⟨(some 39), (.mv (.tmp 4)), none⟩, 
       ⟨(some 2), (.mv (.tmp 39)), none⟩, 
       ⟨(some 3), (.mv (.const (.int .i64 0))), none⟩])
      .ret))))))
theorem c9 {args : Array Value} {h : Heap} {R : Ending → Heap → Prop} (ha : args.size ≤ 40) (hh : aexec Try.prog ac9 (abody [(.slot 2), (.slot 3)] R) ⟨initFr args.toList, []⟩ h) : HCalls Try.prog 9 args h R :=
  hcalls_of Try.func9 rfl rfl (by kernel_rfl) (by kernel_rfl) ha hh
/-- 10: credenza/credenzalaw16.do -/
def ac10 : ACode :=
 (.seq (.ops [
  ⟨(some 5), (.box 33 (.tmp 2)), none⟩, 
  ⟨(some 6), (.mv (.const (.bool false))), none⟩])
 (.seq (.seq (.ops [
    ⟨(some 18), (.fieldAddr 0 (.tmp 5)), none⟩, 
    ⟨(some 19), (.load1 (.tmp 18)), none⟩])
   (.block 0
    (.seq (.seq (.ops [
       ⟨(some 21), (.bin .eql (.tmp 19) (.const (.int .i64 0))), none⟩, 
       ⟨(some 20), (.mv (.tmp 21)), none⟩])
      (.cond (.tmp 20)
       .skip
       (.ops [
        ⟨(some 22), (.bin .eql (.tmp 19) (.const (.int .i64 1))), none⟩, 
        ⟨(some 20), (.mv (.tmp 22)), none⟩])))
     (.cond (.tmp 20)
      (.seq (.ops [
        ⟨(some 23), (.loadN 4 (.tmp 5)), none⟩, 
        ⟨(some 24), (.callF 17 [(.tmp 23)]), none⟩, 
        ⟨(some 7), (.mv (.tmp 24)), none⟩])
       (.seq (.ops [
         ⟨(some 25), (.mv (.tmp 0)), none⟩, 
         ⟨(some 26), (.fieldAddr 1 (.tmp 5)), none⟩, 
         ⟨(some 27), (.load1 (.tmp 26)), none⟩, 
         ⟨(some 28), (.mv (.tmp 7)), none⟩, 
         ⟨(some 29), (.callF 16 [(.tmp 25), (.tmp 27), (.tmp 28)]), none⟩, 
         ⟨(some 8), (.mv (.tmp 29)), none⟩])
        (.seq (.seq (.any [30, 31, 32, 33, 34, 35, 9] [
           ⟨(some 30), (.mv (.tmp 1)), none⟩, 
           ⟨(some 31), (.fieldAddr 1 (.tmp 5)), none⟩, 
           ⟨(some 33), (.loadN 4 (.tmp 5)), none⟩])
          (.alt
           (.any [30, 31, 32, 33, 34, 35, 9] [
            ⟨(some 32), (.load1 (.tmp 31)), none⟩, 
            ⟨(some 34), (.callF 17 [(.tmp 33)]), none⟩, 
            ⟨(some 35), (.callF 28 [(.tmp 30), (.tmp 32), (.tmp 34)]), none⟩, 
            ⟨(some 9), (.mv (.tmp 35)), none⟩])
           (.any [30, 31, 32, 33, 34, 35, 9] [
            ⟨(some 34), (.callF 17 [(.tmp 33)]), none⟩, 
            ⟨(some 32), (.load1 (.tmp 31)), none⟩, 
            ⟨(some 35), (.callF 28 [(.tmp 30), (.tmp 32), (.tmp 34)]), none⟩, 
            ⟨(some 9), (.mv (.tmp 35)), none⟩])))
         (.seq (.ops [
           ⟨(some 36), (.mv (.tmp 7)), none⟩, 
           ⟨(some 37), (.loadN 4 (.tmp 5)), none⟩, 
           ⟨(some 38), (.callF 17 [(.tmp 37)]), none⟩, 
           ⟨(some 39), (.callF 24 [(.tmp 36), (.tmp 38)]), none⟩, 
           ⟨(some 10), (.mv (.tmp 39)), none⟩])
          (.seq (.seq (.ops [
             ⟨(some 40), (.mv (.tmp 7)), none⟩, 
             ⟨(some 41), (.lenSl (.tmp 40)), none⟩, 
             ⟨(some 42), (.mv (.const (.int .i64 0))), none⟩])
            (.block 1
             (.loop
              (.seq (.ops [
                ⟨(some 43), (.bin .lss (.tmp 42) (.tmp 41)), none⟩])
               (.seq (.cond (.tmp 43)
                 .skip
                 (.exit 1))
                (.seq (.block 2
                  (.seq (.ops [
                    ⟨(some 44), (.mv (.tmp 42)), none⟩, 
                    ⟨(some 11), (.mv (.tmp 44)), none⟩])
                   (.ops [
                    ⟨(some 45), (.mv (.tmp 7)), none⟩, 
                    ⟨(some 46), (.mv (.tmp 11)), none⟩, 
                    ⟨(some 47), (.idxSl 1 (.tmp 45) (.tmp 46)), none⟩, 
                    ⟨(some 48), (.load1 (.tmp 47)), none⟩, 
                    ⟨(some 49), (.bin .add (.tmp 48) (.const (.int .u8 1))), none⟩, 
                    ⟨(some 50), (.idxSl 1 (.tmp 45) (.tmp 46)), none⟩, 
                    ⟨none, (.store1 (.tmp 50) (.tmp 49)), none⟩])))
                 (.ops [
                  ⟨(some 51), (.bin .add (.tmp 42) (.const (.int .i64 1))), none⟩, 
                  ⟨(some 42), (.mv (.tmp 51)), none⟩])))))))
           (.seq (.ops [
             ⟨(some 52), (.mv (.tmp 8)), none⟩, 
             ⟨(some 53), (.mv (.tmp 9)), none⟩, 
             ⟨(some 54), (.bin .eql (.tmp 52) (.tmp 53)), none⟩, 
             ⟨(some 55), (.mv (.tmp 54)), none⟩, 
             ⟨(some 56), (.mv (.tmp 10)), (some (55, true))⟩, 
             ⟨(some 57), (.pick (.tmp 55) (.tmp 56) (.const (.bool false))), none⟩, 
             ⟨(some 6), (.mv (.tmp 57)), none⟩])
            .ret))))))
      (.seq (.ops [
        ⟨(some 59), (.bin .eql (.tmp 19) (.const (.int .i64 2))), none⟩, 
        ⟨(some 58), (.mv (.tmp 59)), none⟩])
       (.cond (.tmp 58)
        (.seq (.ops [
          ⟨(some 60), (.mv (.tmp 0)), none⟩, 
          ⟨(some 61), (.callF 14 [(.tmp 60)]), none⟩, 
          ⟨(some 62), (.mv (.tmp 1)), none⟩, 
          ⟨(some 63), (.callF 29 [(.tmp 62)]), none⟩, 
          ⟨(some 64), (.bin .eql (.tmp 61) (.tmp 63)), none⟩, 
          ⟨(some 6), (.mv (.tmp 64)), none⟩])
         .ret)
        (.seq (.ops [
          ⟨(some 66), (.bin .eql (.tmp 19) (.const (.int .i64 3))), none⟩, 
          ⟨(some 65), (.mv (.tmp 66)), none⟩])
         (.cond (.tmp 65)
          (.seq (.ops [
            ⟨(some 68), (.mv (.tmp 0)), none⟩, 
            ⟨(some 69), (.fieldAddr 1 (.tmp 5)), none⟩, 
            ⟨(some 70), (.load1 (.tmp 69)), none⟩, 
            ⟨(some 71), (.callF 15 [(.tmp 68), (.tmp 70)]), none⟩, 
            ⟨(some 67), (.mv (.tmp 71)), none⟩, 
            ⟨(some 72), (.extract (.tmp 67) 0), none⟩, 
            ⟨(some 73), (.extract (.tmp 67) 1), none⟩, 
            ⟨(some 12), (.mv (.tmp 72)), none⟩, 
            ⟨(some 13), (.mv (.tmp 73)), none⟩])
           (.seq (.ops [
             ⟨(some 75), (.mv (.tmp 1)), none⟩, 
             ⟨(some 76), (.fieldAddr 1 (.tmp 5)), none⟩, 
             ⟨(some 77), (.load1 (.tmp 76)), none⟩, 
             ⟨(some 78), (.callF 30 [(.tmp 75), (.tmp 77)]), none⟩, 
             ⟨(some 74), (.mv (.tmp 78)), none⟩, 
             ⟨(some 79), (.extract (.tmp 74) 0), none⟩, 
             ⟨(some 80), (.extract (.tmp 74) 1), none⟩, 
             ⟨(some 14), (.mv (.tmp 79)), none⟩, 
             ⟨(some 15), (.mv (.tmp 80)), none⟩])
            (.seq (.ops [
              ⟨(some 81), (.mv (.tmp 12)), none⟩, 
              ⟨(some 82), (.mv (.tmp 14)), none⟩, 
              ⟨(some 83), (.callF 24 [(.tmp 81), (.tmp 82)]), none⟩, 
              ⟨(some 16), (.mv (.tmp 83)), none⟩])
             (.seq (.seq (.ops [
                ⟨(some 84), (.mv (.tmp 12)), none⟩, 
                ⟨(some 85), (.lenSl (.tmp 84)), none⟩, 
                ⟨(some 86), (.mv (.const (.int .i64 0))), none⟩])
               (.block 3
                (.loop
                 (.seq (.ops [
                   ⟨(some 87), (.bin .lss (.tmp 86) (.tmp 85)), none⟩])
                  (.seq (.cond (.tmp 87)
                    .skip
                    (.exit 3))
                   (.seq (.block 4
                     (.seq (.ops [
                       ⟨(some 88), (.mv (.tmp 86)), none⟩, 
                       ⟨(some 17), (.mv (.tmp 88)), none⟩])
                      (.ops [
                       ⟨(some 89), (.mv (.tmp 12)), none⟩, 
                       ⟨(some 90), (.mv (.tmp 17)), none⟩, 
                       ⟨(some 91), (.idxSl 1 (.tmp 89) (.tmp 90)), none⟩, 
                       ⟨(some 92), (.load1 (.tmp 91)), none⟩, 
                       ⟨(some 93), (.bin .add (.tmp 92) (.const (.int .u8 1))), none⟩, 
                       ⟨(some 94), (.idxSl 1 (.tmp 89) (.tmp 90)), none⟩, 
                       ⟨none, (.store1 (.tmp 94) (.tmp 93)), none⟩])))
                    (.ops [
                     ⟨(some 95), (.bin .add (.tmp 86) (.const (.int .i64 1))), none⟩, 
                     ⟨(some 86), (.mv (.tmp 95)), none⟩])))))))
              (.seq (.ops [
                ⟨(some 96), (.mv (.tmp 13)), none⟩, 
                ⟨(some 97), (.mv (.tmp 15)), none⟩, 
                ⟨(some 98), (.bin .eql (.tmp 96) (.tmp 97)), none⟩, 
                ⟨(some 99), (.mv (.tmp 98)), none⟩, 
                ⟨(some 100), (.mv (.tmp 16)), (some (99, true))⟩, 
                ⟨(some 101), (.pick (.tmp 99) (.tmp 100) (.const (.bool false))), none⟩, 
                ⟨(some 6), (.mv (.tmp 101)), none⟩])
               .ret)))))
          (.seq (.ops [
            ⟨(some 103), (.bin .eql (.tmp 19) (.const (.int .i64 4))), none⟩, 
            ⟨(some 102), (.mv (.tmp 103)), none⟩])
           (.cond (.tmp 102)
            (.seq (.ops [
              ⟨(some 104), (.mv (.tmp 0)), none⟩, 
              ⟨(some 105), (.fieldAddr 2 (.tmp 5)), none⟩, 
              ⟨(some 106), (.load1 (.tmp 105)), none⟩, 
              ⟨(some 107), (.callF 26 [(.tmp 104), (.tmp 106)]), none⟩])
             (.ops [
              ⟨(some 108), (.mv (.tmp 1)), none⟩, 
              ⟨(some 109), (.fieldAddr 2 (.tmp 5)), none⟩, 
              ⟨(some 110), (.load1 (.tmp 109)), none⟩, 
              ⟨(some 111), (.callF 31 [(.tmp 108), (.tmp 110)]), none⟩]))
            (.seq (.ops [
              ⟨(some 113), (.bin .eql (.tmp 19) (.const (.int .i64 5))), none⟩, 
              ⟨(some 112), (.mv (.tmp 113)), none⟩])
             (.cond (.tmp 112)
              (.seq (.ops [
                ⟨(some 114), (.mv (.tmp 0)), none⟩, 
                ⟨(some 115), (.fieldAddr 3 (.tmp 5)), none⟩, 
                ⟨(some 116), (.load1 (.tmp 115)), none⟩, 
                ⟨(some 117), (.callF 18 [(.tmp 114), (.tmp 116)]), none⟩])
               (.ops [
                ⟨(some 118), (.mv (.tmp 1)), none⟩, 
                ⟨(some 119), (.fieldAddr 3 (.tmp 5)), none⟩, 
                ⟨(some 120), (.load1 (.tmp 119)), none⟩, 
                ⟨(some 121), (.callF 32 [(.tmp 118), (.tmp 120)]), none⟩]))
              (.seq (.ops [
                ⟨(some 123), (.bin .eql (.tmp 19) (.const (.int .i64 6))), none⟩, 
                ⟨(some 122), (.mv (.tmp 123)), none⟩])
               (.cond (.tmp 122)
                (.seq (.ops [
                  ⟨(some 124), (.mv (.tmp 0)), none⟩, 
                  ⟨(some 125), (.callF 11 [(.tmp 124)]), none⟩])
                 (.ops [
                  ⟨(some 126), (.mv (.tmp 1)), none⟩, 
                  ⟨(some 127), (.callF 12 [(.tmp 126)]), none⟩]))
                .skip))))))))))))))
  (.seq (.ops [
    ⟨(some 128), (.mv (.tmp 0)), none⟩, 
    ⟨(some 129), (.callF 19 [(.tmp 128)]), none⟩, 
    ⟨(some 130), (.mv (.tmp 1)), none⟩, 
    ⟨(some 131), (.callF 33 [(.tmp 130)]), none⟩, 
    ⟨(some 132), (.callF 23 [(.tmp 129), (.tmp 131)]), none⟩, 
    ⟨(some 133), (.mv (.tmp 132)), none⟩, 
    ⟨(some 134), (.mv (.tmp 0)), (some (133, true))⟩, 
    ⟨(some 135), (.callF 22 [(.tmp 134)]), (some (133, true))⟩, 
    ⟨(some 136), (.mv (.tmp 1)), (some (133, true))⟩, 
    ⟨(some 137), (.callF 34 [(.tmp 136)]), (some (133, true))⟩, 
    ⟨(some 138), (.bin .eql (.tmp 135) (.tmp 137)), (some (133, true))⟩, 
    ⟨(some 139), (.pick (.tmp 133) (.tmp 138) (.const (.bool false))), none⟩, 
    ⟨(some 140), (.mv (.tmp 139)), none⟩, 
    ⟨(some 141), (.mv (.tmp 0)), (some (140, true))⟩, 
    ⟨(some 142), (.callF 20 [(.tmp 141)]), (some (140, true))⟩, 
    ⟨(some 143), (.mv (.tmp 1)), (some (140, true))⟩, 
    ⟨(some 144), (.callF 35 [(.tmp 143)]), (some (140, true))⟩, 
    ⟨(some 145), (.eqB false (.tmp 142) (.tmp 144)), (some (140, true))⟩, 
    ⟨(some 146), (.pick (.tmp 140) (.tmp 145) (.const (.bool false))), none⟩, 
    ⟨(some 147), (.mv (.tmp 146)), none⟩, 
    ⟨(some 148), (.mv (.tmp 0)), (some (147, true))⟩, 
    ⟨(some 149), (.callF 27 [(.tmp 148)]), (some (147, true))⟩, 
    ⟨(some 150), (.mv (.tmp 1)), (some (147, true))⟩, 
    ⟨(some 151), (.callF 13 [(.tmp 150)]), (some (147, true))⟩, 
    ⟨(some 152), (.bin .eql (.tmp 149) (.tmp 151)), (some (147, true))⟩, 
    ⟨(some 153), (.pick (.tmp 147) (.tmp 152) (.const (.bool false))), none⟩, 
    ⟨(some 6), (.mv (.tmp 153)), none⟩])
   .ret)))
theorem c10 {args : Array Value} {h : Heap} {R : Ending → Heap → Prop} (ha : args.size ≤ 154) (hh : aexec Try.prog ac10 (abody [(.slot 6)] R) ⟨initFr args.toList, []⟩ h) : HCalls Try.prog 10 args h R :=
  hcalls_of Try.func10 rfl rfl (by kernel_rfl) (by kernel_rfl) ha hh
/-- 11: (*credenza/disk.Disk).On -/
def ac11 : ACode :=
 (.seq (.ops [
  ⟨(some 2), (.mv (.tmp 0)), none⟩, 
  ⟨(some 3), (.nilCheck (.tmp 2)), none⟩, 
  ⟨(some 4), (.fieldAddr 5 (.tmp 3)), none⟩, 
  ⟨(some 5), (.load1 (.tmp 4)), none⟩])
 (.cond (.tmp 5)
  (.seq (.ops [
    ⟨(some 6), (.mv (.tmp 0)), none⟩, 
    ⟨(some 7), (.callF 18 [(.tmp 6), (.const (.slice none 0 0))]), none⟩])
   (.ops [
    ⟨(some 8), (.mv (.tmp 0)), none⟩, 
    ⟨(some 9), (.nilCheck (.tmp 8)), none⟩, 
    ⟨(some 10), (.fieldAddr 5 (.tmp 9)), none⟩, 
    ⟨none, (.store1 (.tmp 10) (.const (.bool false))), none⟩]))
  .skip))
theorem c11 {args : Array Value} {h : Heap} {R : Ending → Heap → Prop} (ha : args.size ≤ 11) (hh : aexec Try.prog ac11 (abody [] R) ⟨initFr args.toList, []⟩ h) : HCalls Try.prog 11 args h R :=
  hcalls_of Try.func11 rfl rfl (by kernel_rfl) (by kernel_rfl) ha hh
/-- 12: (*credenza/credenzaref16.Disk).On -/
def ac12 : ACode :=
 (.seq (.ops [
  ⟨(some 2), (.mv (.tmp 0)), none⟩, 
  ⟨(some 3), (.nilCheck (.tmp 2)), none⟩, 
  ⟨(some 4), (.fieldAddr 2 (.tmp 3)), none⟩, 
  ⟨(some 5), (.load1 (.tmp 4)), none⟩])
 (.cond (.tmp 5)
  (.seq (.ops [
    ⟨(some 6), (.mv (.tmp 0)), none⟩, 
    ⟨(some 7), (.callF 32 [(.tmp 6), (.const (.slice none 0 0))]), none⟩])
   (.ops [
    ⟨(some 8), (.mv (.tmp 0)), none⟩, 
    ⟨(some 9), (.nilCheck (.tmp 8)), none⟩, 
    ⟨(some 10), (.fieldAddr 2 (.tmp 9)), none⟩, 
    ⟨none, (.store1 (.tmp 10) (.const (.bool false))), none⟩]))
  .skip))
theorem c12 {args : Array Value} {h : Heap} {R : Ending → Heap → Prop} (ha : args.size ≤ 11) (hh : aexec Try.prog ac12 (abody [] R) ⟨initFr args.toList, []⟩ h) : HCalls Try.prog 12 args h R :=
  hcalls_of Try.func12 rfl rfl (by kernel_rfl) (by kernel_rfl) ha hh
/-- 13: (*credenza/credenzaref16.Disk).Sectors -/
def ac13 : ACode :=
 (.seq (.ops [
  ⟨(some 2), (.mv (.const (.int .i64 0))), none⟩])
 (.seq (.ops [
   ⟨(some 3), (.mv (.tmp 0)), none⟩, 
   ⟨(some 4), (.nilCheck (.tmp 3)), none⟩, 
   ⟨(some 5), (.fieldAddr 0 (.tmp 4)), none⟩, 
   ⟨(some 6), (.load1 (.tmp 5)), none⟩, 
   ⟨(some 7), (.lenSl (.tmp 6)), none⟩, 
   ⟨(some 2), (.mv (.tmp 7)), none⟩])
  .ret))
theorem c13 {args : Array Value} {h : Heap} {R : Ending → Heap → Prop} (ha : args.size ≤ 8) (hh : aexec Try.prog ac13 (abody [(.slot 2)] R) ⟨initFr args.toList, []⟩ h) : HCalls Try.prog 13 args h R :=
  hcalls_of Try.func13 rfl rfl (by kernel_rfl) (by kernel_rfl) ha hh
/-- 14: (*credenza/disk.Disk).Flush -/
def ac14 : ACode :=
 (.seq (.ops [
  ⟨(some 2), (.mv (.const (.int .i64 0))), none⟩])
 (.seq (.seq (.ops [
    ⟨(some 5), (.mv (.tmp 0)), none⟩, 
    ⟨(some 6), (.callF 36 [(.tmp 5), (.const (.int .i64 0))]), none⟩, 
    ⟨(some 3), (.mv (.tmp 6)), none⟩])
   (.seq (.ops [
     ⟨(some 7), (.mv (.tmp 3)), none⟩, 
     ⟨(some 8), (.bin .neq (.tmp 7) (.const (.int .i64 0))), none⟩])
    (.cond (.tmp 8)
     (.seq (.ops [
       ⟨(some 9), (.mv (.tmp 3)), none⟩, 
       ⟨(some 2), (.mv (.tmp 9)), none⟩])
      .ret)
     .skip)))
  (.seq (.ops [
    ⟨(some 10), (.mv (.tmp 0)), none⟩, 
    ⟨(some 11), (.callF 37 [(.tmp 10)]), none⟩, 
    ⟨(some 4), (.mv (.tmp 11)), none⟩])
   (.seq (.seq (.ops [
      ⟨(some 12), (.mv (.tmp 4)), none⟩, 
      ⟨(some 13), (.bin .eql (.tmp 12) (.const (.int .i64 0))), none⟩])
     (.cond (.tmp 13)
      (.seq (.any [14, 15, 16, 17, 18, 19, 20, 21, 22] [
        ⟨(some 14), (.mv (.tmp 0)), none⟩, 
        ⟨(some 15), (.nilCheck (.tmp 14)), none⟩, 
        ⟨(some 16), (.fieldAddr 3 (.tmp 15)), none⟩, 
        ⟨(some 17), (.load1 (.tmp 16)), none⟩, 
        ⟨(some 18), (.mv (.tmp 0)), none⟩, 
        ⟨(some 19), (.nilCheck (.tmp 18)), none⟩, 
        ⟨(some 20), (.fieldAddr 4 (.tmp 19)), none⟩, 
        ⟨(some 21), (.load1 (.tmp 20)), none⟩, 
        ⟨(some 22), (.callF 38 [(.tmp 17), (.tmp 21)]), none⟩])
       (.ops [
        ⟨(some 23), (.mv (.tmp 0)), none⟩, 
        ⟨(some 24), (.nilCheck (.tmp 23)), none⟩, 
        ⟨(some 25), (.fieldAddr 4 (.tmp 24)), none⟩, 
        ⟨(some 26), (.load1 (.tmp 25)), none⟩, 
        ⟨none, (.raw ⟨none, (.call ⟨(.builtin .clear), #[(.tmp 26)], #[55]⟩), 0, "disk.go:106", #[⟨3, .data⟩], none⟩), none⟩]))
      .skip))
    (.seq (.ops [
      ⟨(some 27), (.mv (.tmp 4)), none⟩, 
      ⟨(some 2), (.mv (.tmp 27)), none⟩])
     .ret)))))
theorem c14 {args : Array Value} {h : Heap} {R : Ending → Heap → Prop} (ha : args.size ≤ 28) (hh : aexec Try.prog ac14 (abody [(.slot 2)] R) ⟨initFr args.toList, []⟩ h) : HCalls Try.prog 14 args h R :=
  hcalls_of Try.func14 rfl rfl (by kernel_rfl) (by kernel_rfl) ha hh
/-- 15: (*credenza/disk.Disk).Read -/
def ac15 : ACode :=
 (.seq (.ops [
  ⟨(some 4), (.mv (.const (.slice none 0 0))), none⟩, 
  ⟨(some 5), (.mv (.const (.int .i64 0))), none⟩])
 (.seq (.seq (.ops [
    ⟨(some 10), (.mv (.tmp 0)), none⟩, 
    ⟨(some 11), (.mv (.tmp 1)), none⟩, 
    ⟨(some 12), (.callF 36 [(.tmp 10), (.tmp 11)]), none⟩, 
    ⟨(some 6), (.mv (.tmp 12)), none⟩])
   (.seq (.ops [
     ⟨(some 13), (.mv (.tmp 6)), none⟩, 
     ⟨(some 14), (.bin .neq (.tmp 13) (.const (.int .i64 0))), none⟩])
    (.cond (.tmp 14)
     (.seq (.ops [
       ⟨(some 15), (.mv (.tmp 6)), none⟩, 
       ⟨(some 4), (.mv (.const (.slice none 0 0))), none⟩, 
       ⟨(some 5), (.mv (.tmp 15)), none⟩])
      .ret)
     .skip)))
  (.seq (.ops [
    ⟨(some 16), (.mkSlice 5 1 1 [(.int .u8 0)] (.const (.int .i64 4096)) (.const (.int .i64 4096))), none⟩, 
    ⟨(some 7), (.mv (.tmp 16)), none⟩])
   (.seq (.ops [
     ⟨(some 18), (.mv (.tmp 0)), none⟩, 
     ⟨(some 19), (.nilCheck (.tmp 18)), none⟩, 
     ⟨(some 20), (.fieldAddr 4 (.tmp 19)), none⟩, 
     ⟨(some 21), (.load1 (.tmp 20)), none⟩, 
     ⟨(some 22), (.mv (.tmp 1)), none⟩, 
     ⟨(some 23), (.lookMap (.int .i64) (.string ⟨#[]⟩) true (.tmp 21) (.tmp 22)), none⟩, 
     ⟨(some 17), (.mv (.tmp 23)), none⟩, 
     ⟨(some 24), (.extract (.tmp 17) 0), none⟩, 
     ⟨(some 25), (.extract (.tmp 17) 1), none⟩, 
     ⟨(some 8), (.mv (.tmp 24)), none⟩, 
     ⟨(some 9), (.mv (.tmp 25)), none⟩])
    (.seq (.seq (.ops [
       ⟨(some 26), (.mv (.tmp 9)), none⟩, 
       ⟨(some 27), (.un .not (.tmp 26)), none⟩])
      (.cond (.tmp 27)
       (.ops [
        ⟨(some 28), (.mv (.tmp 0)), none⟩, 
        ⟨(some 29), (.nilCheck (.tmp 28)), none⟩, 
        ⟨(some 30), (.fieldAddr 3 (.tmp 29)), none⟩, 
        ⟨(some 31), (.load1 (.tmp 30)), none⟩, 
        ⟨(some 32), (.mv (.tmp 1)), none⟩, 
        ⟨(some 33), (.lookMap (.int .i64) (.string ⟨#[]⟩) false (.tmp 31) (.tmp 32)), none⟩, 
        ⟨(some 8), (.mv (.tmp 33)), none⟩])
       .skip))
     (.seq (.ops [
       ⟨(some 34), (.mv (.tmp 7)), none⟩, 
       ⟨(some 35), (.mv (.tmp 8)), none⟩, 
       ⟨(some 36), (.copy 1 (.tmp 34) (.tmp 35)), none⟩])
      (.seq (.ops [
        ⟨(some 37), (.mv (.tmp 7)), none⟩, 
        ⟨(some 4), (.mv (.tmp 37)), none⟩, 
        ⟨(some 5), (.mv (.const (.int .i64 0))), none⟩])
       .ret)))))))
theorem c15 {args : Array Value} {h : Heap} {R : Ending → Heap → Prop} (ha : args.size ≤ 38) (hh : aexec Try.prog ac15 (abody [(.slot 4), (.slot 5)] R) ⟨initFr args.toList, []⟩ h) : HCalls Try.prog 15 args h R :=
  hcalls_of Try.func15 rfl rfl (by kernel_rfl) (by kernel_rfl) ha hh
/-- 16: (*credenza/disk.Disk).Write -/
def ac16 : ACode :=
 (.seq (.ops [
  ⟨(some 6), (.mv (.const (.int .i64 0))), none⟩])
 (.seq (.seq (.ops [
    ⟨(some 9), (.mv (.tmp 0)), none⟩, 
    ⟨(some 10), (.mv (.tmp 1)), none⟩, 
    ⟨(some 11), (.callF 36 [(.tmp 9), (.tmp 10)]), none⟩, 
    ⟨(some 7), (.mv (.tmp 11)), none⟩])
   (.seq (.ops [
     ⟨(some 12), (.mv (.tmp 7)), none⟩, 
     ⟨(some 13), (.bin .neq (.tmp 12) (.const (.int .i64 0))), none⟩])
    (.cond (.tmp 13)
     (.seq (.ops [
       ⟨(some 14), (.mv (.tmp 7)), none⟩, 
       ⟨(some 6), (.mv (.tmp 14)), none⟩])
      .ret)
     .skip)))
  (.seq (.seq (.ops [
     ⟨(some 15), (.mv (.tmp 2)), none⟩, 
     ⟨(some 16), (.lenSl (.tmp 15)), none⟩, 
     ⟨(some 17), (.bin .neq (.tmp 16) (.const (.int .i64 4096))), none⟩])
    (.cond (.tmp 17)
     (.seq (.ops [
       ⟨(some 6), (.mv (.const (.int .i64 2))), none⟩])
      .ret)
     .skip))
   (.seq (.ops [
     ⟨(some 18), (.mv (.tmp 0)), none⟩, 
     ⟨(some 19), (.callF 37 [(.tmp 18)]), none⟩, 
     ⟨(some 8), (.mv (.tmp 19)), none⟩])
    (.seq (.seq (.ops [
       ⟨(some 20), (.mv (.tmp 8)), none⟩, 
       ⟨(some 21), (.bin .eql (.tmp 20) (.const (.int .i64 0))), none⟩])
      (.cond (.tmp 21)
       (.any [22, 23, 24, 25, 26, 27, 28] [
        ⟨(some 22), (.mv (.tmp 0)), none⟩, 
        ⟨(some 23), (.nilCheck (.tmp 22)), none⟩, 
        ⟨(some 24), (.fieldAddr 4 (.tmp 23)), none⟩, 
        ⟨(some 25), (.load1 (.tmp 24)), none⟩, 
        ⟨(some 26), (.mv (.tmp 1)), none⟩, 
        ⟨(some 27), (.mv (.tmp 2)), none⟩, 
        ⟨(some 28), (.strOfBytes (.tmp 27)), none⟩, 
        ⟨none, (.setMap (.int .i64) (.tmp 25) (.tmp 26) (.tmp 28)), none⟩])
       .skip))
     (.seq (.ops [
       ⟨(some 29), (.mv (.tmp 8)), none⟩, 
       ⟨(some 6), (.mv (.tmp 29)), none⟩])
      .ret))))))
theorem c16 {args : Array Value} {h : Heap} {R : Ending → Heap → Prop} (ha : args.size ≤ 30) (hh : aexec Try.prog ac16 (abody [(.slot 6)] R) ⟨initFr args.toList, []⟩ h) : HCalls Try.prog 16 args h R :=
  hcalls_of Try.func16 rfl rfl (by kernel_rfl) (by kernel_rfl) ha hh
/-- 17: (credenza/credenzalaw16.Op).bytes -/
def ac17 : ACode :=
 (.seq (.ops [
  ⟨(some 1), (.box 33 (.tmp 0)), none⟩, 
  ⟨(some 2), (.mv (.const (.slice none 0 0))), none⟩])
 (.seq (.seq (.ops [
    ⟨(some 3), (.fieldAddr 0 (.tmp 1)), none⟩, 
    ⟨(some 4), (.load1 (.tmp 3)), none⟩, 
    ⟨(some 5), (.bin .eql (.tmp 4) (.const (.int .i64 1))), none⟩])
   (.cond (.tmp 5)
    (.seq (.ops [
      ⟨(some 6), (.fieldAddr 3 (.tmp 1)), none⟩, 
      ⟨(some 7), (.load1 (.tmp 6)), none⟩, 
      ⟨(some 8), (.append 5 1 1 [(.int .u8 0)] (.const (.slice none 0 0)) (.tmp 7)), none⟩, 
      ⟨(some 2), (.mv (.tmp 8)), none⟩])
     .ret)
    .skip))
  (.seq (.ops [
    ⟨(some 9), (.fieldAddr 2 (.tmp 1)), none⟩, 
    ⟨(some 10), (.load1 (.tmp 9)), none⟩, 
    ⟨(some 11), (.convInt .u8 (.tmp 10)), none⟩, 
    ⟨(some 12), (.callF 25 [(.tmp 11)]), none⟩, 
    ⟨(some 2), (.mv (.tmp 12)), none⟩])
   .ret)))
theorem c17 {args : Array Value} {h : Heap} {R : Ending → Heap → Prop} (ha : args.size ≤ 13) (hh : aexec Try.prog ac17 (abody [(.slot 2)] R) ⟨initFr args.toList, []⟩ h) : HCalls Try.prog 17 args h R :=
  hcalls_of Try.func17 rfl rfl (by kernel_rfl) (by kernel_rfl) ha hh
/-- 18: (*credenza/disk.Disk).Cut -/
def ac18 : ACode :=
 (.seq (.seq (.ops [
   ⟨(some 6), (.mv (.tmp 0)), none⟩, 
   ⟨(some 7), (.callF 19 [(.tmp 6)]), none⟩, 
   ⟨(some 8), (.lenSl (.tmp 7)), none⟩, 
   ⟨(some 9), (.mv (.const (.int .i64 0))), none⟩])
  (.block 0
   (.loop
    (.seq (.ops [
      ⟨(some 10), (.bin .lss (.tmp 9) (.tmp 8)), none⟩])
     (.seq (.cond (.tmp 10)
       .skip
       (.exit 0))
      (.seq (.block 1
        (.seq (.ops [
          ⟨(some 11), (.mv (.tmp 9)), none⟩, 
          ⟨(some 12), (.idxSl 1 (.tmp 7) (.tmp 9)), none⟩, 
          ⟨(some 13), (.load1 (.tmp 12)), none⟩, 
          ⟨(some 4), (.mv (.tmp 11)), none⟩, 
          ⟨(some 5), (.mv (.tmp 13)), none⟩])
         (.seq (.ops [
           ⟨(some 14), (.mv (.tmp 4)), none⟩, 
           ⟨(some 15), (.mv (.tmp 1)), none⟩, 
           ⟨(some 16), (.lenSl (.tmp 15)), none⟩, 
           ⟨(some 17), (.bin .lss (.tmp 14) (.tmp 16)), none⟩, 
           ⟨(some 18), (.mv (.tmp 17)), none⟩, 
           ⟨(some 19), (.mv (.tmp 1)), (some (18, true))⟩, 
           ⟨(some 20), (.mv (.tmp 4)), (some (18, true))⟩, 
           ⟨(some 21), (.idxSl 1 (.tmp 19) (.tmp 20)), (some (18, true))⟩, 
           ⟨(some 22), (.load1 (.tmp 21)), (some (18, true))⟩, 
           ⟨(some 23), (.bin .and (.tmp 22) (.const (.int .u8 1))), (some (18, true))⟩, 
           ⟨(some 24), (.bin .eql (.tmp 23) (.const (.int .u8 1))), (some (18, true))⟩, 
           ⟨(some 25), (.pick (.tmp 18) (.tmp 24) (.const (.bool false))), none⟩])
          (.cond (.tmp 25)
           (.seq (.any [26, 27, 28, 29, 30, 31, 32, 33, 34, 35, 36] [
             ⟨(some 26), (.mv (.tmp 0)), none⟩, 
             ⟨(some 27), (.nilCheck (.tmp 26)), none⟩, 
             ⟨(some 28), (.fieldAddr 3 (.tmp 27)), none⟩, 
             ⟨(some 30), (.mv (.tmp 5)), none⟩, 
             ⟨(some 31), (.mv (.tmp 0)), none⟩, 
             ⟨(some 32), (.nilCheck (.tmp 31)), none⟩, 
             ⟨(some 33), (.fieldAddr 4 (.tmp 32)), none⟩, 
             ⟨(some 34), (.load1 (.tmp 33)), none⟩, 
             ⟨(some 35), (.mv (.tmp 5)), none⟩])
            (.alt
             (.any [26, 27, 28, 29, 30, 31, 32, 33, 34, 35, 36] [
              ⟨(some 29), (.load1 (.tmp 28)), none⟩, 
              ⟨(some 36), (.lookMap (.int .i64) (.string ⟨#[]⟩) false (.tmp 34) (.tmp 35)), none⟩, 
              ⟨none, (.setMap (.int .i64) (.tmp 29) (.tmp 30) (.tmp 36)), none⟩])
             (.any [26, 27, 28, 29, 30, 31, 32, 33, 34, 35, 36] [
              ⟨(some 36), (.lookMap (.int .i64) (.string ⟨#[]⟩) false (.tmp 34) (.tmp 35)), none⟩, 
              ⟨(some 29), (.load1 (.tmp 28)), none⟩, 
              ⟨none, (.setMap (.int .i64) (.tmp 29) (.tmp 30) (.tmp 36)), none⟩])))
           .skip))))
       (.ops [
        ⟨(some 37), (.bin .add (.tmp 9) (.const (.int .i64 1))), none⟩, 
        ⟨(some 9), (.mv (.tmp 37)), none⟩])))))))
 (.seq (.ops [
   ⟨(some 38), (.mv (.tmp 0)), none⟩, 
   ⟨(some 39), (.nilCheck (.tmp 38)), none⟩, 
   ⟨(some 40), (.fieldAddr 4 (.tmp 39)), none⟩, 
   ⟨(some 41), (.load1 (.tmp 40)), none⟩, 
   ⟨none, (.raw ⟨none, (.call ⟨(.builtin .clear), #[(.tmp 41)], #[55]⟩), 0, "disk.go:121", #[⟨3, .data⟩], none⟩), none⟩])
  (.ops [
   ⟨(some 42), (.mv (.tmp 0)), none⟩, 
   ⟨(some 43), (.mv (.tmp 0)), none⟩, 
   ⟨(some 44), (.nilCheck (.tmp 42)), none⟩, 
   ⟨(some 45), (.fieldAddr 5 (.tmp 44)), none⟩, 
   ⟨none, (.store1 (.tmp 45) (.const (.bool true))), none⟩, 
   ⟨(some 46), (.nilCheck (.tmp 43)), none⟩, 
   ⟨(some 47), (.fieldAddr 2 (.tmp 46)), none⟩, 
   ⟨none, (.store1 (.tmp 47) (.const (.int .i64 (-1)))), none⟩])))
theorem c18 {args : Array Value} {h : Heap} {R : Ending → Heap → Prop} (ha : args.size ≤ 48) (hh : aexec Try.prog ac18 (abody [] R) ⟨initFr args.toList, []⟩ h) : HCalls Try.prog 18 args h R :=
  hcalls_of Try.func18 rfl rfl (by kernel_rfl) (by kernel_rfl) ha hh
/-- 19: (*credenza/disk.Disk).Waiting -/
def ac19 : ACode :=
 (.seq (.ops [
  ⟨(some 2), (.mv (.const (.slice none 0 0))), none⟩])
 (.seq (.ops [
   ⟨(some 3), (.mv (.tmp 0)), none⟩, 
   ⟨(some 4), (.nilCheck (.tmp 3)), none⟩, 
   ⟨(some 5), (.fieldAddr 4 (.tmp 4)), none⟩, 
   ⟨(some 6), (.load1 (.tmp 5)), none⟩, 
   ⟨(some 7), (.callF 40 [(.tmp 6)]), none⟩, 
   ⟨(some 8), (.callF 39 [(.tmp 7)]), none⟩, 
   ⟨(some 2), (.mv (.tmp 8)), none⟩])
  .ret))
theorem c19 {args : Array Value} {h : Heap} {R : Ending → Heap → Prop} (ha : args.size ≤ 9) (hh : aexec Try.prog ac19 (abody [(.slot 2)] R) ⟨initFr args.toList, []⟩ h) : HCalls Try.prog 19 args h R :=
  hcalls_of Try.func19 rfl rfl (by kernel_rfl) (by kernel_rfl) ha hh
/-- 20: (*credenza/disk.Disk).IsOn -/
def ac20 : ACode :=
 (.seq (.ops [
  ⟨(some 2), (.mv (.const (.bool false))), none⟩])
 (.seq (.ops [
   ⟨(some 3), (.mv (.tmp 0)), none⟩, 
   ⟨(some 4), (.nilCheck (.tmp 3)), none⟩, 
   ⟨(some 5), (.fieldAddr 5 (.tmp 4)), none⟩, 
   ⟨(some 6), (.load1 (.tmp 5)), none⟩, 
   ⟨(some 7), (.un .not (.tmp 6)), none⟩, 
   ⟨(some 2), (.mv (.tmp 7)), none⟩])
  .ret))
theorem c20 {args : Array Value} {h : Heap} {R : Ending → Heap → Prop} (ha : args.size ≤ 8) (hh : aexec Try.prog ac20 (abody [(.slot 2)] R) ⟨initFr args.toList, []⟩ h) : HCalls Try.prog 20 args h R :=
  hcalls_of Try.func20 rfl rfl (by kernel_rfl) (by kernel_rfl) ha hh
/-- 21: (*credenza/disk.Disk).Clone -/
def ac21 : ACode :=
 (.seq (.ops [
  ⟨(some 2), (.mv (.const (.pointer none))), none⟩])
 (.seq (.ops [
   ⟨(some 4), (.mv (.tmp 0)), none⟩, 
   ⟨(some 5), (.nilCheck (.tmp 4)), none⟩, 
   ⟨(some 6), (.loadN 6 (.tmp 5)), none⟩, 
   ⟨(some 3), (.new 57 [(.int .i64 0), (.int .i64 0), (.int .i64 0), (.map none), (.map none), (.bool false)]), none⟩, 
   ⟨none, (.storeN 6 (.tmp 3) (.tmp 6)), none⟩])
  (.seq (.seq (.any [7, 8, 9, 10, 11, 12, 13, 14, 15, 16, 17, 18] [
     ⟨(some 7), (.mv (.tmp 0)), none⟩, 
     ⟨(some 8), (.nilCheck (.tmp 7)), none⟩, 
     ⟨(some 9), (.fieldAddr 3 (.tmp 8)), none⟩, 
     ⟨(some 10), (.load1 (.tmp 9)), none⟩, 
     ⟨(some 12), (.mv (.tmp 0)), none⟩, 
     ⟨(some 13), (.nilCheck (.tmp 12)), none⟩, 
     ⟨(some 14), (.fieldAddr 4 (.tmp 13)), none⟩])
    (.alt
     (.any [7, 8, 9, 10, 11, 12, 13, 14, 15, 16, 17, 18] [
      ⟨(some 11), (.callF 41 [(.tmp 10)]), none⟩, 
      ⟨(some 15), (.load1 (.tmp 14)), none⟩, 
      ⟨(some 16), (.callF 41 [(.tmp 15)]), none⟩, 
      ⟨(some 17), (.fieldAddr 3 (.tmp 3)), none⟩, 
      ⟨none, (.store1 (.tmp 17) (.tmp 11)), none⟩, 
      ⟨(some 18), (.fieldAddr 4 (.tmp 3)), none⟩, 
      ⟨none, (.store1 (.tmp 18) (.tmp 16)), none⟩])
     (.any [7, 8, 9, 10, 11, 12, 13, 14, 15, 16, 17, 18] [
      ⟨(some 15), (.load1 (.tmp 14)), none⟩, 
      ⟨(some 11), (.callF 41 [(.tmp 10)]), none⟩, 
      ⟨(some 16), (.callF 41 [(.tmp 15)]), none⟩, 
      ⟨(some 17), (.fieldAddr 3 (.tmp 3)), none⟩, 
      ⟨none, (.store1 (.tmp 17) (.tmp 11)), none⟩, 
      ⟨(some 18), (.fieldAddr 4 (.tmp 3)), none⟩, 
      ⟨none, (.store1 (.tmp 18) (.tmp 16)), none⟩])))
   (.seq (.ops [
     ⟨(some 2), (.mv (.tmp 3)), none⟩])
    .ret))))
theorem c21 {args : Array Value} {h : Heap} {R : Ending → Heap → Prop} (ha : args.size ≤ 19) (hh : aexec Try.prog ac21 (abody [(.slot 2)] R) ⟨initFr args.toList, []⟩ h) : HCalls Try.prog 21 args h R :=
  hcalls_of Try.func21 rfl rfl (by kernel_rfl) (by kernel_rfl) ha hh
/-- 22: (*credenza/disk.Disk).Acts -/
def ac22 : ACode :=
 (.seq (.ops [
  ⟨(some 2), (.mv (.const (.int .i64 0))), none⟩])
 (.seq (.ops [
   ⟨(some 3), (.mv (.tmp 0)), none⟩, 
   ⟨(some 4), (.nilCheck (.tmp 3)), none⟩, 
   ⟨(some 5), (.fieldAddr 1 (.tmp 4)), none⟩, 
   ⟨(some 6), (.load1 (.tmp 5)), none⟩, 
   ⟨(some 2), (.mv (.tmp 6)), none⟩])
  .ret))
theorem c22 {args : Array Value} {h : Heap} {R : Ending → Heap → Prop} (ha : args.size ≤ 7) (hh : aexec Try.prog ac22 (abody [(.slot 2)] R) ⟨initFr args.toList, []⟩ h) : HCalls Try.prog 22 args h R :=
  hcalls_of Try.func22 rfl rfl (by kernel_rfl) (by kernel_rfl) ha hh
/-- 23: credenza/credenzaref16.SameInts -/
def ac23 : ACode :=
 (.seq (.ops [
  ⟨(some 4), (.mv (.const (.bool false))), none⟩])
 (.seq (.seq (.ops [
    ⟨(some 6), (.mv (.tmp 0)), none⟩, 
    ⟨(some 7), (.lenSl (.tmp 6)), none⟩, 
    ⟨(some 8), (.mv (.tmp 1)), none⟩, 
    ⟨(some 9), (.lenSl (.tmp 8)), none⟩, 
    ⟨(some 10), (.bin .neq (.tmp 7) (.tmp 9)), none⟩])
   (.cond (.tmp 10)
    (.seq (.ops [
      ⟨(some 4), (.mv (.const (.bool false))), none⟩])
     .ret)
    .skip))
  (.seq (.seq (.ops [
     ⟨(some 11), (.mv (.tmp 0)), none⟩, 
     ⟨(some 12), (.lenSl (.tmp 11)), none⟩, 
     ⟨(some 13), (.mv (.const (.int .i64 0))), none⟩])
    (.block 0
     (.loop
      (.seq (.ops [
        ⟨(some 14), (.bin .lss (.tmp 13) (.tmp 12)), none⟩])
       (.seq (.cond (.tmp 14)
         .skip
         (.exit 0))
        (.seq (.block 1
          (.seq (.ops [
            ⟨(some 15), (.mv (.tmp 13)), none⟩, 
            ⟨(some 5), (.mv (.tmp 15)), none⟩])
           (.seq (.any [16, 17, 18, 19, 20, 21, 22, 23, 24] [
             ⟨(some 16), (.mv (.tmp 0)), none⟩, 
             ⟨(some 17), (.mv (.tmp 5)), none⟩, 
             ⟨(some 18), (.idxSl 1 (.tmp 16) (.tmp 17)), none⟩, 
             ⟨(some 19), (.load1 (.tmp 18)), none⟩, 
             ⟨(some 20), (.mv (.tmp 1)), none⟩, 
             ⟨(some 21), (.mv (.tmp 5)), none⟩, 
             ⟨(some 22), (.idxSl 1 (.tmp 20) (.tmp 21)), none⟩, 
             ⟨(some 23), (.load1 (.tmp 22)), none⟩, 
             ⟨(some 24), (.bin .neq (.tmp 19) (.tmp 23)), none⟩])
            (.cond (.tmp 24)
             (.seq (.ops [
               ⟨(some 4), (.mv (.const (.bool false))), none⟩])
              .ret)
             .skip))))
         (.ops [
          ⟨(some 25), (.bin .add (.tmp 13) (.const (.int .i64 1))), none⟩, 
          ⟨(some 13), (.mv (.tmp 25)), none⟩])))))))
   (.seq (.ops [
     ⟨(some 4), (.mv (.const (.bool true))), none⟩])
    .ret))))
theorem c23 {args : Array Value} {h : Heap} {R : Ending → Heap → Prop} (ha : args.size ≤ 26) (hh : aexec Try.prog ac23 (abody [(.slot 4)] R) ⟨initFr args.toList, []⟩ h) : HCalls Try.prog 23 args h R :=
  hcalls_of Try.func23 rfl rfl (by kernel_rfl) (by kernel_rfl) ha hh
/-- 24: credenza/credenzaref02.Same -/
def ac24 : ACode :=
 (.seq (.ops [
  ⟨(some 4), (.mv (.const (.bool false))), none⟩])
 (.seq (.ops [
   ⟨(some 5), (.mv (.tmp 0)), none⟩, 
   ⟨(some 6), (.strOfBytes (.tmp 5)), none⟩, 
   ⟨(some 7), (.mv (.tmp 1)), none⟩, 
   ⟨(some 8), (.strOfBytes (.tmp 7)), none⟩, 
   ⟨(some 9), (.bin .eql (.tmp 6) (.tmp 8)), none⟩, 
   ⟨(some 4), (.mv (.tmp 9)), none⟩])
  .ret))
theorem c24 {args : Array Value} {h : Heap} {R : Ending → Heap → Prop} (ha : args.size ≤ 10) (hh : aexec Try.prog ac24 (abody [(.slot 4)] R) ⟨initFr args.toList, []⟩ h) : HCalls Try.prog 24 args h R :=
  hcalls_of Try.func24 rfl rfl (by kernel_rfl) (by kernel_rfl) ha hh
/-- 25: credenza/credenzalaw16.full -/
def ac25 : ACode :=
 (.seq (.ops [
  ⟨(some 2), (.mv (.const (.slice none 0 0))), none⟩])
 (.seq (.ops [
   ⟨(some 5), (.mkSlice 5 1 1 [(.int .u8 0)] (.const (.int .i64 4096)) (.const (.int .i64 4096))), none⟩, 
   ⟨(some 3), (.mv (.tmp 5)), none⟩])
  (.seq (.seq (.ops [
     ⟨(some 6), (.mv (.tmp 3)), none⟩, 
     ⟨(some 7), (.lenSl (.tmp 6)), none⟩, 
     ⟨(some 8), (.mv (.const (.int .i64 0))), none⟩])
    (.block 0
     (.loop
      (.seq (.ops [
        ⟨(some 9), (.bin .lss (.tmp 8) (.tmp 7)), none⟩])
       (.seq (.cond (.tmp 9)
         .skip
         (.exit 0))
        (.seq (.block 1
          (.seq (.ops [
            ⟨(some 10), (.mv (.tmp 8)), none⟩, 
            ⟨(some 4), (.mv (.tmp 10)), none⟩])
           (.ops [
            ⟨(some 11), (.mv (.tmp 3)), none⟩, 
            ⟨(some 12), (.mv (.tmp 4)), none⟩, 
            ⟨(some 13), (.mv (.tmp 0)), none⟩, 
            ⟨(some 14), (.idxSl 1 (.tmp 11) (.tmp 12)), none⟩, 
            ⟨none, (.store1 (.tmp 14) (.tmp 13)), none⟩])))
         (.ops [
          ⟨(some 15), (.bin .add (.tmp 8) (.const (.int .i64 1))), none⟩, 
          ⟨(some 8), (.mv (.tmp 15)), none⟩])))))))
   (.seq (.ops [
     ⟨(some 16), (.mv (.tmp 3)), none⟩, 
     ⟨(some 2), (.mv (.tmp 16)), none⟩])
    .ret))))
theorem c25 {args : Array Value} {h : Heap} {R : Ending → Heap → Prop} (ha : args.size ≤ 17) (hh : aexec Try.prog ac25 (abody [(.slot 2)] R) ⟨initFr args.toList, []⟩ h) : HCalls Try.prog 25 args h R :=
  hcalls_of Try.func25 rfl rfl (by kernel_rfl) (by kernel_rfl) ha hh
/-- 26: (*credenza/disk.Disk).Fuse -/
def ac26 : ACode :=
 (.ops [
 ⟨(some 4), (.mv (.tmp 0)), none⟩, 
 ⟨(some 5), (.mv (.tmp 1)), none⟩, 
 ⟨(some 6), (.minmax true (.tmp 5) [(.const (.int .i64 (-1)))]), none⟩, 
 ⟨(some 7), (.nilCheck (.tmp 4)), none⟩, 
 ⟨(some 8), (.fieldAddr 2 (.tmp 7)), none⟩, 
 ⟨none, (.store1 (.tmp 8) (.tmp 6)), none⟩])
theorem c26 {args : Array Value} {h : Heap} {R : Ending → Heap → Prop} (ha : args.size ≤ 9) (hh : aexec Try.prog ac26 (abody [] R) ⟨initFr args.toList, []⟩ h) : HCalls Try.prog 26 args h R :=
  hcalls_of Try.func26 rfl rfl (by kernel_rfl) (by kernel_rfl) ha hh
/-- 27: (*credenza/disk.Disk).Sectors -/
def ac27 : ACode :=
 (.seq (.ops [
  ⟨(some 2), (.mv (.const (.int .i64 0))), none⟩])
 (.seq (.ops [
   ⟨(some 3), (.mv (.tmp 0)), none⟩, 
   ⟨(some 4), (.nilCheck (.tmp 3)), none⟩, 
   ⟨(some 5), (.fieldAddr 0 (.tmp 4)), none⟩, 
   ⟨(some 6), (.load1 (.tmp 5)), none⟩, 
   ⟨(some 2), (.mv (.tmp 6)), none⟩])
  .ret))
theorem c27 {args : Array Value} {h : Heap} {R : Ending → Heap → Prop} (ha : args.size ≤ 7) (hh : aexec Try.prog ac27 (abody [(.slot 2)] R) ⟨initFr args.toList, []⟩ h) : HCalls Try.prog 27 args h R :=
  hcalls_of Try.func27 rfl rfl (by kernel_rfl) (by kernel_rfl) ha hh
/-- 28: (*credenza/credenzaref16.Disk).Write -/
def ac28 : ACode :=
 (.seq (.ops [
  ⟨(some 6), (.mv (.const (.int .i64 0))), none⟩])
 (.seq (.seq (.ops [
    ⟨(some 7), (.mv (.tmp 0)), none⟩, 
    ⟨(some 8), (.nilCheck (.tmp 7)), none⟩, 
    ⟨(some 9), (.fieldAddr 2 (.tmp 8)), none⟩, 
    ⟨(some 10), (.load1 (.tmp 9)), none⟩])
   (.cond (.tmp 10)
    (.seq (.ops [
      ⟨(some 6), (.mv (.const (.int .i64 160))), none⟩])
     .ret)
    .skip))
  (.seq (.seq (.ops [
     ⟨(some 11), (.mv (.tmp 1)), none⟩, 
     ⟨(some 12), (.bin .lss (.tmp 11) (.const (.int .i64 0))), none⟩, 
     ⟨(some 13), (.mv (.tmp 12)), none⟩, 
     ⟨(some 14), (.mv (.tmp 1)), (some (13, false))⟩, 
     ⟨(some 15), (.mv (.tmp 0)), (some (13, false))⟩, 
     ⟨(some 16), (.nilCheck (.tmp 15)), (some (13, false))⟩, 
     ⟨(some 17), (.fieldAddr 0 (.tmp 16)), (some (13, false))⟩, 
     ⟨(some 18), (.load1 (.tmp 17)), (some (13, false))⟩, 
     ⟨(some 19), (.lenSl (.tmp 18)), (some (13, false))⟩, 
     ⟨(some 20), (.bin .geq (.tmp 14) (.tmp 19)), (some (13, false))⟩, 
     ⟨(some 21), (.pick (.tmp 13) (.const (.bool true)) (.tmp 20)), none⟩])
    (.cond (.tmp 21)
     (.seq (.ops [
       ⟨(some 6), (.mv (.const (.int .i64 4))), none⟩])
      .ret)
     .skip))
   (.seq (.seq (.ops [
      ⟨(some 22), (.mv (.tmp 2)), none⟩, 
      ⟨(some 23), (.lenSl (.tmp 22)), none⟩, 
      ⟨(some 24), (.bin .neq (.tmp 23) (.const (.int .i64 4096))), none⟩])
     (.cond (.tmp 24)
      (.seq (.ops [
        ⟨(some 6), (.mv (.const (.int .i64 2))), none⟩])
       .ret)
      .skip))
    (.seq (.seq (.ops [
       ⟨(some 25), (.mv (.tmp 0)), none⟩, 
       ⟨(some 26), (.callF 42 [(.tmp 25)]), none⟩, 
       ⟨(some 27), (.un .not (.tmp 26)), none⟩])
      (.cond (.tmp 27)
       (.seq (.ops [
         ⟨(some 6), (.mv (.const (.int .i64 160))), none⟩])
        .ret)
       .skip))
     (.seq (.any [28, 29, 30, 31, 32, 33, 34, 35] [
       ⟨(some 28), (.mv (.tmp 0)), none⟩, 
       ⟨(some 29), (.nilCheck (.tmp 28)), none⟩, 
       ⟨(some 30), (.fieldAddr 1 (.tmp 29)), none⟩, 
       ⟨(some 31), (.load1 (.tmp 30)), none⟩, 
       ⟨(some 32), (.mv (.tmp 1)), none⟩, 
       ⟨(some 33), (.mv (.tmp 2)), none⟩, 
       ⟨(some 34), (.strOfBytes (.tmp 33)), none⟩, 
       ⟨(some 35), (.idxSl 1 (.tmp 31) (.tmp 32)), none⟩, 
       ⟨none, (.store1 (.tmp 35) (.tmp 34)), none⟩])
      (.seq (.ops [
        ⟨(some 6), (.mv (.const (.int .i64 0))), none⟩])
       .ret)))))))
theorem c28 {args : Array Value} {h : Heap} {R : Ending → Heap → Prop} (ha : args.size ≤ 36) (hh : aexec Try.prog ac28 (abody [(.slot 6)] R) ⟨initFr args.toList, []⟩ h) : HCalls Try.prog 28 args h R :=
  hcalls_of Try.func28 rfl rfl (by kernel_rfl) (by kernel_rfl) ha hh
/-- 29: (*credenza/credenzaref16.Disk).Flush -/
def ac29 : ACode :=
 (.seq (.ops [
  ⟨(some 2), (.mv (.const (.int .i64 0))), none⟩])
 (.seq (.seq (.ops [
    ⟨(some 5), (.mv (.tmp 0)), none⟩, 
    ⟨(some 6), (.nilCheck (.tmp 5)), none⟩, 
    ⟨(some 7), (.fieldAddr 2 (.tmp 6)), none⟩, 
    ⟨(some 8), (.load1 (.tmp 7)), none⟩, 
    ⟨(some 9), (.mv (.tmp 8)), none⟩, 
    ⟨(some 10), (.mv (.tmp 0)), (some (9, false))⟩, 
    ⟨(some 11), (.callF 42 [(.tmp 10)]), (some (9, false))⟩, 
    ⟨(some 12), (.un .not (.tmp 11)), (some (9, false))⟩, 
    ⟨(some 13), (.pick (.tmp 9) (.const (.bool true)) (.tmp 12)), none⟩])
   (.cond (.tmp 13)
    (.seq (.ops [
      ⟨(some 2), (.mv (.const (.int .i64 160))), none⟩])
     .ret)
    .skip))
  (.seq (.seq (.ops [
     ⟨(some 14), (.mv (.tmp 0)), none⟩, 
     ⟨(some 15), (.nilCheck (.tmp 14)), none⟩, 
     ⟨(some 16), (.fieldAddr 1 (.tmp 15)), none⟩, 
     ⟨(some 17), (.load1 (.tmp 16)), none⟩, 
     ⟨(some 18), (.lenSl (.tmp 17)), none⟩, 
     ⟨(some 19), (.mv (.const (.int .i64 0))), none⟩])
    (.block 0
     (.loop
      (.seq (.ops [
        ⟨(some 20), (.bin .lss (.tmp 19) (.tmp 18)), none⟩])
       (.seq (.cond (.tmp 20)
         .skip
         (.exit 0))
        (.seq (.block 1
          (.seq (.ops [
            ⟨(some 21), (.mv (.tmp 19)), none⟩, 
            ⟨(some 22), (.idxSl 1 (.tmp 17) (.tmp 19)), none⟩, 
            ⟨(some 23), (.load1 (.tmp 22)), none⟩, 
            ⟨(some 3), (.mv (.tmp 21)), none⟩, 
            ⟨(some 4), (.mv (.tmp 23)), none⟩])
           (.seq (.ops [
             ⟨(some 24), (.mv (.tmp 4)), none⟩, 
             ⟨(some 25), (.bin .neq (.tmp 24) (.const (.string ⟨#[]⟩))), none⟩])
            (.cond (.tmp 25)
             (.seq (.ops [
               ⟨(some 26), (.mv (.tmp 0)), none⟩, 
               ⟨(some 27), (.nilCheck (.tmp 26)), none⟩, 
               ⟨(some 28), (.fieldAddr 0 (.tmp 27)), none⟩, 
               ⟨(some 29), (.load1 (.tmp 28)), none⟩, 
               ⟨(some 30), (.mv (.tmp 3)), none⟩, 
               ⟨(some 31), (.mv (.tmp 4)), none⟩, 
               ⟨(some 32), (.idxSl 1 (.tmp 29) (.tmp 30)), none⟩, 
               ⟨none, (.store1 (.tmp 32) (.tmp 31)), none⟩])
              (.ops [
               ⟨(some 33), (.mv (.tmp 0)), none⟩, 
               ⟨(some 34), (.nilCheck (.tmp 33)), none⟩, 
               ⟨(some 35), (.fieldAddr 1 (.tmp 34)), none⟩, 
               ⟨(some 36), (.load1 (.tmp 35)), none⟩, 
               ⟨(some 37), (.mv (.tmp 3)), none⟩, 
               ⟨(some 38), (.idxSl 1 (.tmp 36) (.tmp 37)), none⟩, 
               ⟨none, (.store1 (.tmp 38) (.const (.string ⟨#[]⟩))), none⟩]))
             .skip))))
         (.ops [
          ⟨(some 39), (.bin .add (.tmp 19) (.const (.int .i64 1))), none⟩, 
          ⟨(some 19), (.mv (.tmp 39)), none⟩])))))))
   (.seq (.ops [
     ⟨(some 2), (.mv (.const (.int .i64 0))), none⟩])
    .ret))))
theorem c29 {args : Array Value} {h : Heap} {R : Ending → Heap → Prop} (ha : args.size ≤ 40) (hh : aexec Try.prog ac29 (abody [(.slot 2)] R) ⟨initFr args.toList, []⟩ h) : HCalls Try.prog 29 args h R :=
  hcalls_of Try.func29 rfl rfl (by kernel_rfl) (by kernel_rfl) ha hh
/-- 30: (*credenza/credenzaref16.Disk).Read -/
def ac30 : ACode :=
 (.seq (.ops [
  ⟨(some 4), (.mv (.const (.slice none 0 0))), none⟩, 
  ⟨(some 5), (.mv (.const (.int .i64 0))), none⟩])
 (.seq (.seq (.ops [
    ⟨(some 6), (.mv (.tmp 0)), none⟩, 
    ⟨(some 7), (.nilCheck (.tmp 6)), none⟩, 
    ⟨(some 8), (.fieldAddr 2 (.tmp 7)), none⟩, 
    ⟨(some 9), (.load1 (.tmp 8)), none⟩])
   (.cond (.tmp 9)
    (.seq (.ops [
      ⟨(some 4), (.mv (.const (.slice none 0 0))), none⟩, 
      ⟨(some 5), (.mv (.const (.int .i64 160))), none⟩])
     .ret)
    .skip))
  (.seq (.seq (.ops [
     ⟨(some 10), (.mv (.tmp 1)), none⟩, 
     ⟨(some 11), (.bin .lss (.tmp 10) (.const (.int .i64 0))), none⟩, 
     ⟨(some 12), (.mv (.tmp 11)), none⟩, 
     ⟨(some 13), (.mv (.tmp 1)), (some (12, false))⟩, 
     ⟨(some 14), (.mv (.tmp 0)), (some (12, false))⟩, 
     ⟨(some 15), (.nilCheck (.tmp 14)), (some (12, false))⟩, 
     ⟨(some 16), (.fieldAddr 0 (.tmp 15)), (some (12, false))⟩, 
     ⟨(some 17), (.load1 (.tmp 16)), (some (12, false))⟩, 
     ⟨(some 18), (.lenSl (.tmp 17)), (some (12, false))⟩, 
     ⟨(some 19), (.bin .geq (.tmp 13) (.tmp 18)), (some (12, false))⟩, 
     ⟨(some 20), (.pick (.tmp 12) (.const (.bool true)) (.tmp 19)), none⟩])
    (.cond (.tmp 20)
     (.seq (.ops [
       ⟨(some 4), (.mv (.const (.slice none 0 0))), none⟩, 
       ⟨(some 5), (.mv (.const (.int .i64 4))), none⟩])
      .ret)
     .skip))
   (.seq (.seq (.ops [
      ⟨(some 21), (.mv (.tmp 0)), none⟩, 
      ⟨(some 22), (.nilCheck (.tmp 21)), none⟩, 
      ⟨(some 23), (.fieldAddr 1 (.tmp 22)), none⟩, 
      ⟨(some 24), (.load1 (.tmp 23)), none⟩, 
      ⟨(some 25), (.mv (.tmp 1)), none⟩, 
      ⟨(some 26), (.idxSl 1 (.tmp 24) (.tmp 25)), none⟩, 
      ⟨(some 27), (.load1 (.tmp 26)), none⟩, 
      ⟨(some 28), (.bin .neq (.tmp 27) (.const (.string ⟨#[]⟩))), none⟩])
     (.cond (.tmp 28)
      (.seq (.ops [
        ⟨(some 29), (.mv (.tmp 0)), none⟩, 
        ⟨(some 30), (.nilCheck (.tmp 29)), none⟩, 
        ⟨(some 31), (.fieldAddr 1 (.tmp 30)), none⟩, 
        ⟨(some 32), (.load1 (.tmp 31)), none⟩, 
        ⟨(some 33), (.mv (.tmp 1)), none⟩, 
        ⟨(some 34), (.idxSl 1 (.tmp 32) (.tmp 33)), none⟩, 
        ⟨(some 35), (.load1 (.tmp 34)), none⟩, 
        ⟨(some 36), (.bytesOfStr 5 (.tmp 35)), none⟩, 
        ⟨(some 4), (.mv (.tmp 36)), none⟩, 
        ⟨(some 5), (.mv (.const (.int .i64 0))), none⟩])
       .ret)
      .skip))
    (.seq (.ops [
      ⟨(some 37), (.mv (.tmp 0)), none⟩, 
      ⟨(some 38), (.nilCheck (.tmp 37)), none⟩, 
      ⟨(some 39), (.fieldAddr 0 (.tmp 38)), none⟩, 
      ⟨(some 40), (.load1 (.tmp 39)), none⟩, 
      ⟨(some 41), (.mv (.tmp 1)), none⟩, 
      ⟨(some 42), (.idxSl 1 (.tmp 40) (.tmp 41)), none⟩, 
      ⟨(some 43), (.load1 (.tmp 42)), none⟩, 
      ⟨(some 44), (.bytesOfStr 5 (.tmp 43)), none⟩, 
      ⟨(some 4), (.mv (.tmp 44)), none⟩, 
      ⟨(some 5), (.mv (.const (.int .i64 0))), none⟩])
     .ret)))))
theorem c30 {args : Array Value} {h : Heap} {R : Ending → Heap → Prop} (ha : args.size ≤ 45) (hh : aexec Try.prog ac30 (abody [(.slot 4), (.slot 5)] R) ⟨initFr args.toList, []⟩ h) : HCalls Try.prog 30 args h R :=
  hcalls_of Try.func30 rfl rfl (by kernel_rfl) (by kernel_rfl) ha hh
/-- 31: (*credenza/credenzaref16.Disk).Fuse -/
def ac31 : ACode :=
 (.ops [
 ⟨(some 4), (.mv (.tmp 0)), none⟩, 
 ⟨(some 5), (.mv (.tmp 1)), none⟩, 
 ⟨(some 6), (.minmax true (.tmp 5) [(.const (.int .i64 (-1)))]), none⟩, 
 ⟨(some 7), (.nilCheck (.tmp 4)), none⟩, 
 ⟨(some 8), (.fieldAddr 3 (.tmp 7)), none⟩, 
 ⟨none, (.store1 (.tmp 8) (.tmp 6)), none⟩])
theorem c31 {args : Array Value} {h : Heap} {R : Ending → Heap → Prop} (ha : args.size ≤ 9) (hh : aexec Try.prog ac31 (abody [] R) ⟨initFr args.toList, []⟩ h) : HCalls Try.prog 31 args h R :=
  hcalls_of Try.func31 rfl rfl (by kernel_rfl) (by kernel_rfl) ha hh
/-- 32: (*credenza/credenzaref16.Disk).Cut -/
def ac32 : ACode :=
 (.seq (.seq (.ops [
   ⟨(some 6), (.mv (.tmp 0)), none⟩, 
   ⟨(some 7), (.callF 33 [(.tmp 6)]), none⟩, 
   ⟨(some 8), (.lenSl (.tmp 7)), none⟩, 
   ⟨(some 9), (.mv (.const (.int .i64 0))), none⟩])
  (.block 0
   (.loop
    (.seq (.ops [
      ⟨(some 10), (.bin .lss (.tmp 9) (.tmp 8)), none⟩])
     (.seq (.cond (.tmp 10)
       .skip
       (.exit 0))
      (.seq (.block 1
        (.seq (.ops [
          ⟨(some 11), (.mv (.tmp 9)), none⟩, 
          ⟨(some 12), (.idxSl 1 (.tmp 7) (.tmp 9)), none⟩, 
          ⟨(some 13), (.load1 (.tmp 12)), none⟩, 
          ⟨(some 4), (.mv (.tmp 11)), none⟩, 
          ⟨(some 5), (.mv (.tmp 13)), none⟩])
         (.seq (.seq (.ops [
            ⟨(some 14), (.mv (.tmp 4)), none⟩, 
            ⟨(some 15), (.mv (.tmp 1)), none⟩, 
            ⟨(some 16), (.lenSl (.tmp 15)), none⟩, 
            ⟨(some 17), (.bin .lss (.tmp 14) (.tmp 16)), none⟩, 
            ⟨(some 18), (.mv (.tmp 17)), none⟩, 
            ⟨(some 19), (.mv (.tmp 1)), (some (18, true))⟩, 
            ⟨(some 20), (.mv (.tmp 4)), (some (18, true))⟩, 
            ⟨(some 21), (.idxSl 1 (.tmp 19) (.tmp 20)), (some (18, true))⟩, 
            ⟨(some 22), (.load1 (.tmp 21)), (some (18, true))⟩, 
            ⟨(some 23), (.bin .rem (.tmp 22) (.const (.int .u8 2))), (some (18, true))⟩, 
            ⟨(some 24), (.bin .eql (.tmp 23) (.const (.int .u8 1))), (some (18, true))⟩, 
            ⟨(some 25), (.pick (.tmp 18) (.tmp 24) (.const (.bool false))), none⟩])
           (.cond (.tmp 25)
            (.any [26, 27, 28, 29, 30, 31, 32, 33, 34, 35, 36, 37, 38] [
             ⟨(some 26), (.mv (.tmp 0)), none⟩, 
             ⟨(some 27), (.nilCheck (.tmp 26)), none⟩, 
             ⟨(some 28), (.fieldAddr 0 (.tmp 27)), none⟩, 
             ⟨(some 29), (.load1 (.tmp 28)), none⟩, 
             ⟨(some 30), (.mv (.tmp 5)), none⟩, 
             ⟨(some 31), (.mv (.tmp 0)), none⟩, 
             ⟨(some 32), (.nilCheck (.tmp 31)), none⟩, 
             ⟨(some 33), (.fieldAddr 1 (.tmp 32)), none⟩, 
             ⟨(some 34), (.load1 (.tmp 33)), none⟩, 
             ⟨(some 35), (.mv (.tmp 5)), none⟩, 
             ⟨(some 36), (.idxSl 1 (.tmp 34) (.tmp 35)), none⟩, 
             ⟨(some 37), (.load1 (.tmp 36)), none⟩, 
             ⟨(some 38), (.idxSl 1 (.tmp 29) (.tmp 30)), none⟩, 
             ⟨none, (.store1 (.tmp 38) (.tmp 37)), none⟩])
            .skip))
          (.ops [
           ⟨(some 39), (.mv (.tmp 0)), none⟩, 
           ⟨(some 40), (.nilCheck (.tmp 39)), none⟩, 
           ⟨(some 41), (.fieldAddr 1 (.tmp 40)), none⟩, 
           ⟨(some 42), (.load1 (.tmp 41)), none⟩, 
           ⟨(some 43), (.mv (.tmp 5)), none⟩, 
           ⟨(some 44), (.idxSl 1 (.tmp 42) (.tmp 43)), none⟩, 
           ⟨none, (.store1 (.tmp 44) (.const (.string ⟨#[]⟩))), none⟩]))))
       (.ops [
        ⟨(some 45), (.bin .add (.tmp 9) (.const (.int .i64 1))), none⟩, 
        ⟨(some 9), (.mv (.tmp 45)), none⟩])))))))
 (.seq (.ops [
   ⟨(some 46), (.mv (.tmp 0)), none⟩, 
   ⟨(some 47), (.nilCheck (.tmp 46)), none⟩, 
   ⟨(some 48), (.fieldAddr 2 (.tmp 47)), none⟩, 
   ⟨none, (.store1 (.tmp 48) (.const (.bool true))), none⟩])
  (.ops [
   ⟨(some 49), (.mv (.tmp 0)), none⟩, 
   ⟨(some 50), (.nilCheck (.tmp 49)), none⟩, 
   ⟨(some 51), (.fieldAddr 3 (.tmp 50)), none⟩, 
   ⟨none, (.store1 (.tmp 51) (.const (.int .i64 (-1)))), none⟩])))
theorem c32 {args : Array Value} {h : Heap} {R : Ending → Heap → Prop} (ha : args.size ≤ 52) (hh : aexec Try.prog ac32 (abody [] R) ⟨initFr args.toList, []⟩ h) : HCalls Try.prog 32 args h R :=
  hcalls_of Try.func32 rfl rfl (by kernel_rfl) (by kernel_rfl) ha hh
/-- 33: (*credenza/credenzaref16.Disk).Waiting -/
def ac33 : ACode :=
 (.seq (.ops [
  ⟨(some 2), (.mv (.const (.slice none 0 0))), none⟩])
 (.seq (.ops [
   ⟨(some 3), (.mv (.const (.slice none 0 0))), none⟩])
  (.seq (.seq (.ops [
     ⟨(some 6), (.mv (.tmp 0)), none⟩, 
     ⟨(some 7), (.nilCheck (.tmp 6)), none⟩, 
     ⟨(some 8), (.fieldAddr 1 (.tmp 7)), none⟩, 
     ⟨(some 9), (.load1 (.tmp 8)), none⟩, 
     ⟨(some 10), (.lenSl (.tmp 9)), none⟩, 
     ⟨(some 11), (.mv (.const (.int .i64 0))), none⟩])
    (.block 0
     (.loop
      (.seq (.ops [
        ⟨(some 12), (.bin .lss (.tmp 11) (.tmp 10)), none⟩])
       (.seq (.cond (.tmp 12)
         .skip
         (.exit 0))
        (.seq (.block 1
          (.seq (.ops [
            ⟨(some 13), (.mv (.tmp 11)), none⟩, 
            ⟨(some 14), (.idxSl 1 (.tmp 9) (.tmp 11)), none⟩, 
            ⟨(some 15), (.load1 (.tmp 14)), none⟩, 
            ⟨(some 4), (.mv (.tmp 13)), none⟩, 
            ⟨(some 5), (.mv (.tmp 15)), none⟩])
           (.seq (.ops [
             ⟨(some 16), (.mv (.tmp 5)), none⟩, 
             ⟨(some 17), (.bin .neq (.tmp 16) (.const (.string ⟨#[]⟩))), none⟩])
            (.cond (.tmp 17)
             (.ops [
              ⟨(some 18), (.mv (.tmp 3)), none⟩, 
              ⟨(some 19), (.mv (.tmp 4)), none⟩, 
              ⟨(some 20), (.buildSlice 3 1 [(.int .i64 0)] [(0, 1, (.tmp 19))]), none⟩, 
              ⟨(some 21), (.append 3 1 8 [(.int .i64 0)] (.tmp 18) (.tmp 20)), none⟩, 
              ⟨(some 3), (.mv (.tmp 21)), none⟩])
             .skip))))
         (.ops [
          ⟨(some 22), (.bin .add (.tmp 11) (.const (.int .i64 1))), none⟩, 
          ⟨(some 11), (.mv (.tmp 22)), none⟩])))))))
   (.seq (.ops [
     ⟨(some 23), (.mv (.tmp 3)), none⟩, 
     ⟨(some 2), (.mv (.tmp 23)), none⟩])
    .ret))))
theorem c33 {args : Array Value} {h : Heap} {R : Ending → Heap → Prop} (ha : args.size ≤ 24) (hh : aexec Try.prog ac33 (abody [(.slot 2)] R) ⟨initFr args.toList, []⟩ h) : HCalls Try.prog 33 args h R :=
  hcalls_of Try.func33 rfl rfl (by kernel_rfl) (by kernel_rfl) ha hh
/-- 34: (*credenza/credenzaref16.Disk).Acts -/
def ac34 : ACode :=
 (.seq (.ops [
  ⟨(some 2), (.mv (.const (.int .i64 0))), none⟩])
 (.seq (.ops [
   ⟨(some 3), (.mv (.tmp 0)), none⟩, 
   ⟨(some 4), (.nilCheck (.tmp 3)), none⟩, 
   ⟨(some 5), (.fieldAddr 4 (.tmp 4)), none⟩, 
   ⟨(some 6), (.load1 (.tmp 5)), none⟩, 
   ⟨(some 2), (.mv (.tmp 6)), none⟩])
  .ret))
theorem c34 {args : Array Value} {h : Heap} {R : Ending → Heap → Prop} (ha : args.size ≤ 7) (hh : aexec Try.prog ac34 (abody [(.slot 2)] R) ⟨initFr args.toList, []⟩ h) : HCalls Try.prog 34 args h R :=
  hcalls_of Try.func34 rfl rfl (by kernel_rfl) (by kernel_rfl) ha hh
/-- 35: (*credenza/credenzaref16.Disk).IsOn -/
def ac35 : ACode :=
 (.seq (.ops [
  ⟨(some 2), (.mv (.const (.bool false))), none⟩])
 (.seq (.ops [
   ⟨(some 3), (.mv (.tmp 0)), none⟩, 
   ⟨(some 4), (.nilCheck (.tmp 3)), none⟩, 
   ⟨(some 5), (.fieldAddr 2 (.tmp 4)), none⟩, 
   ⟨(some 6), (.load1 (.tmp 5)), none⟩, 
   ⟨(some 7), (.un .not (.tmp 6)), none⟩, 
   ⟨(some 2), (.mv (.tmp 7)), none⟩])
  .ret))
theorem c35 {args : Array Value} {h : Heap} {R : Ending → Heap → Prop} (ha : args.size ≤ 8) (hh : aexec Try.prog ac35 (abody [(.slot 2)] R) ⟨initFr args.toList, []⟩ h) : HCalls Try.prog 35 args h R :=
  hcalls_of Try.func35 rfl rfl (by kernel_rfl) (by kernel_rfl) ha hh
/-- 36: (*credenza/disk.Disk).refused -/
def ac36 : ACode :=
 (.seq (.ops [
  ⟨(some 4), (.mv (.const (.int .i64 0))), none⟩])
 (.seq (.block 0
   (.seq (.ops [
     ⟨(some 6), (.mv (.tmp 0)), none⟩, 
     ⟨(some 7), (.nilCheck (.tmp 6)), none⟩, 
     ⟨(some 8), (.fieldAddr 5 (.tmp 7)), none⟩, 
     ⟨(some 9), (.load1 (.tmp 8)), none⟩, 
     ⟨(some 5), (.mv (.tmp 9)), none⟩])
    (.cond (.tmp 5)
     (.seq (.ops [
       ⟨(some 4), (.mv (.const (.int .i64 160))), none⟩])
      .ret)
     (.seq (.ops [
       ⟨(some 11), (.mv (.tmp 1)), none⟩, 
       ⟨(some 12), (.bin .lss (.tmp 11) (.const (.int .i64 0))), none⟩, 
       ⟨(some 13), (.mv (.tmp 12)), none⟩, 
       ⟨(some 14), (.mv (.tmp 1)), (some (13, false))⟩, 
       ⟨(some 15), (.mv (.tmp 0)), (some (13, false))⟩, 
       ⟨(some 16), (.nilCheck (.tmp 15)), (some (13, false))⟩, 
       ⟨(some 17), (.fieldAddr 0 (.tmp 16)), (some (13, false))⟩, 
       ⟨(some 18), (.load1 (.tmp 17)), (some (13, false))⟩, 
       ⟨(some 19), (.bin .geq (.tmp 14) (.tmp 18)), (some (13, false))⟩, 
       ⟨(some 20), (.pick (.tmp 13) (.const (.bool true)) (.tmp 19)), none⟩, 
       ⟨(some 10), (.mv (.tmp 20)), none⟩])
      (.cond (.tmp 10)
       (.seq (.ops [
         ⟨(some 4), (.mv (.const (.int .i64 4))), none⟩])
        .ret)
       .skip)))))
  (.seq (.ops [
    ⟨(some 4), (.mv (.const (.int .i64 0))), none⟩])
   .ret)))
theorem c36 {args : Array Value} {h : Heap} {R : Ending → Heap → Prop} (ha : args.size ≤ 21) (hh : aexec Try.prog ac36 (abody [(.slot 4)] R) ⟨initFr args.toList, []⟩ h) : HCalls Try.prog 36 args h R :=
  hcalls_of Try.func36 rfl rfl (by kernel_rfl) (by kernel_rfl) ha hh
/-- 37: (*credenza/disk.Disk).act -/
def ac37 : ACode :=
 (.seq (.ops [
  ⟨(some 2), (.mv (.const (.int .i64 0))), none⟩])
 (.seq (.block 0
   (.seq (.ops [
     ⟨(some 4), (.mv (.tmp 0)), none⟩, 
     ⟨(some 5), (.nilCheck (.tmp 4)), none⟩, 
     ⟨(some 6), (.fieldAddr 2 (.tmp 5)), none⟩, 
     ⟨(some 7), (.load1 (.tmp 6)), none⟩, 
     ⟨(some 8), (.bin .eql (.tmp 7) (.const (.int .i64 0))), none⟩, 
     ⟨(some 3), (.mv (.tmp 8)), none⟩])
    (.cond (.tmp 3)
     (.seq (.ops [
       ⟨(some 9), (.mv (.tmp 0)), none⟩, 
       ⟨(some 10), (.nilCheck (.tmp 9)), none⟩, 
       ⟨(some 11), (.fieldAddr 5 (.tmp 10)), none⟩, 
       ⟨none, (.store1 (.tmp 11) (.const (.bool true))), none⟩])
      (.seq (.ops [
        ⟨(some 2), (.mv (.const (.int .i64 160))), none⟩])
       .ret))
     (.seq (.ops [
       ⟨(some 13), (.mv (.tmp 0)), none⟩, 
       ⟨(some 14), (.nilCheck (.tmp 13)), none⟩, 
       ⟨(some 15), (.fieldAddr 2 (.tmp 14)), none⟩, 
       ⟨(some 16), (.load1 (.tmp 15)), none⟩, 
       ⟨(some 17), (.bin .gtr (.tmp 16) (.const (.int .i64 0))), none⟩, 
       ⟨(some 12), (.mv (.tmp 17)), none⟩])
      (.cond (.tmp 12)
       (.ops [
        ⟨(some 18), (.mv (.tmp 0)), none⟩, 
        ⟨(some 19), (.nilCheck (.tmp 18)), none⟩, 
        ⟨(some 20), (.fieldAddr 2 (.tmp 19)), none⟩, 
        ⟨(some 21), (.load1 (.tmp 20)), none⟩, 
        ⟨(some 22), (.bin .sub (.tmp 21) (.const (.int .i64 1))), none⟩, 
        ⟨(some 23), (.nilCheck (.tmp 18)), none⟩, 
        ⟨(some 24), (.fieldAddr 2 (.tmp 23)), none⟩, 
        ⟨none, (.store1 (.tmp 24) (.tmp 22)), none⟩])
       .skip)))))
  (.seq (.ops [
    ⟨(some 25), (.mv (.tmp 0)), none⟩, 
    ⟨(some 26), (.nilCheck (.tmp 25)), none⟩, 
    ⟨(some 27), (.fieldAddr 1 (.tmp 26)), none⟩, 
    ⟨(some 28), (.load1 (.tmp 27)), none⟩, 
    ⟨(some 29), (.bin .add (.tmp 28) (.const (.int .i64 1))), none⟩, 
    ⟨(some 30), (.nilCheck (.tmp 25)), none⟩, 
    ⟨(some 31), (.fieldAddr 1 (.tmp 30)), none⟩, 
    ⟨none, (.store1 (.tmp 31) (.tmp 29)), none⟩])
   (.seq (.ops [
     ⟨(some 2), (.mv (.const (.int .i64 0))), none⟩])
    .ret))))
theorem c37 {args : Array Value} {h : Heap} {R : Ending → Heap → Prop} (ha : args.size ≤ 32) (hh : aexec Try.prog ac37 (abody [(.slot 2)] R) ⟨initFr args.toList, []⟩ h) : HCalls Try.prog 37 args h R :=
  hcalls_of Try.func37 rfl rfl (by kernel_rfl) (by kernel_rfl) ha hh
/-- 39: slices.Sorted[int] -/
def ac39 : ACode :=
 (.seq (.ops [
  ⟨(some 2), (.mv (.const (.slice none 0 0))), none⟩])
 (.seq (.ops [
   ⟨(some 4), (.mv (.tmp 0)), none⟩, 
   ⟨(some 5), (.callF 43 [(.tmp 4)]), none⟩, 
   ⟨(some 3), (.mv (.tmp 5)), none⟩])
  (.seq (.ops [
    ⟨(some 6), (.mv (.tmp 3)), none⟩, 
    ⟨(some 7), (.callF 44 [(.tmp 6)]), none⟩])
   (.seq (.ops [
     ⟨(some 8), (.mv (.tmp 3)), none⟩, 
     ⟨(some 2), (.mv (.tmp 8)), none⟩])
    .ret))))
theorem c39 {args : Array Value} {h : Heap} {R : Ending → Heap → Prop} (ha : args.size ≤ 9) (hh : aexec Try.prog ac39 (abody [(.slot 2)] R) ⟨initFr args.toList, []⟩ h) : HCalls Try.prog 39 args h R :=
  hcalls_of Try.func39 rfl rfl (by kernel_rfl) (by kernel_rfl) ha hh
/-- 40: maps.Keys[map[int]string,int,string] -/
def ac40 : ACode :=
 (.seq (.ops [
  ⟨(some 1), (.box 55 (.tmp 0)), none⟩, 
  ⟨(some 2), (.mv (.const .nilFunc)), none⟩])
 (.seq (.ops [
   ⟨(some 3), (.mkFunc (.func 45) [] [(.tmp 1)]), none⟩, 
   ⟨(some 2), (.mv (.tmp 3)), none⟩])
  .ret))
theorem c40 {args : Array Value} {h : Heap} {R : Ending → Heap → Prop} (ha : args.size ≤ 4) (hh : aexec Try.prog ac40 (abody [(.slot 2)] R) ⟨initFr args.toList, []⟩ h) : HCalls Try.prog 40 args h R :=
  hcalls_of Try.func40 rfl rfl (by kernel_rfl) (by kernel_rfl) ha hh
/-- 41: maps.Clone[map[int]string,int,string] -/
def ac41 : ACode :=
 (.seq (.ops [
  ⟨(some 2), (.mv (.const (.map none))), none⟩])
 (.seq (.seq (.ops [
    ⟨(some 3), (.mv (.tmp 0)), none⟩, 
    ⟨(some 4), (.isNil 3 false (.tmp 3)), none⟩])
   (.cond (.tmp 4)
    (.seq (.ops [
      ⟨(some 2), (.mv (.const (.map none))), none⟩])
     .ret)
    .skip))
  (.seq (.ops [
    ⟨(some 5), (.mv (.tmp 0)), none⟩, 
    ⟨(some 6), (.mkIface 55 (.tmp 5)), none⟩, 
    ⟨(some 7), (.raw ⟨(some 7), (.call ⟨(.value (.func 46)), #[(.tmp 6)], #[20]⟩), 20, "maps.go:55", #[⟨1, .data⟩], none⟩), none⟩, 
    ⟨(some 8), (.assertT 55 (.map none) false (.tmp 7)), none⟩, 
    ⟨(some 2), (.mv (.tmp 8)), none⟩])
   .ret)))
theorem c41 {args : Array Value} {h : Heap} {R : Ending → Heap → Prop} (ha : args.size ≤ 9) (hh : aexec Try.prog ac41 (abody [(.slot 2)] R) ⟨initFr args.toList, []⟩ h) : HCalls Try.prog 41 args h R :=
  hcalls_of Try.func41 rfl rfl (by kernel_rfl) (by kernel_rfl) ha hh
/-- 42: (*credenza/credenzaref16.Disk).act -/
def ac42 : ACode :=
 (.seq (.ops [
  ⟨(some 2), (.mv (.const (.bool false))), none⟩])
 (.seq (.seq (.ops [
    ⟨(some 3), (.mv (.tmp 0)), none⟩, 
    ⟨(some 4), (.nilCheck (.tmp 3)), none⟩, 
    ⟨(some 5), (.fieldAddr 3 (.tmp 4)), none⟩, 
    ⟨(some 6), (.load1 (.tmp 5)), none⟩, 
    ⟨(some 7), (.bin .eql (.tmp 6) (.const (.int .i64 0))), none⟩])
   (.cond (.tmp 7)
    (.seq (.ops [
      ⟨(some 8), (.mv (.tmp 0)), none⟩, 
      ⟨(some 9), (.nilCheck (.tmp 8)), none⟩, 
      ⟨(some 10), (.fieldAddr 2 (.tmp 9)), none⟩, 
      ⟨none, (.store1 (.tmp 10) (.const (.bool true))), none⟩])
     (.seq (.ops [
       ⟨(some 2), (.mv (.const (.bool false))), none⟩])
      .ret))
    .skip))
  (.seq (.seq (.ops [
     ⟨(some 11), (.mv (.tmp 0)), none⟩, 
     ⟨(some 12), (.nilCheck (.tmp 11)), none⟩, 
     ⟨(some 13), (.fieldAddr 3 (.tmp 12)), none⟩, 
     ⟨(some 14), (.load1 (.tmp 13)), none⟩, 
     ⟨(some 15), (.bin .gtr (.tmp 14) (.const (.int .i64 0))), none⟩])
    (.cond (.tmp 15)
     (.ops [
      ⟨(some 16), (.mv (.tmp 0)), none⟩, 
      ⟨(some 17), (.nilCheck (.tmp 16)), none⟩, 
      ⟨(some 18), (.fieldAddr 3 (.tmp 17)), none⟩, 
      ⟨(some 19), (.load1 (.tmp 18)), none⟩, 
      ⟨(some 20), (.bin .sub (.tmp 19) (.const (.int .i64 1))), none⟩, 
      ⟨(some 21), (.nilCheck (.tmp 16)), none⟩, 
      ⟨(some 22), (.fieldAddr 3 (.tmp 21)), none⟩, 
      ⟨none, (.store1 (.tmp 22) (.tmp 20)), none⟩])
     .skip))
   (.seq (.ops [
     ⟨(some 23), (.mv (.tmp 0)), none⟩, 
     ⟨(some 24), (.nilCheck (.tmp 23)), none⟩, 
     ⟨(some 25), (.fieldAddr 4 (.tmp 24)), none⟩, 
     ⟨(some 26), (.load1 (.tmp 25)), none⟩, 
     ⟨(some 27), (.bin .add (.tmp 26) (.const (.int .i64 1))), none⟩, 
     ⟨(some 28), (.nilCheck (.tmp 23)), none⟩, 
     ⟨(some 29), (.fieldAddr 4 (.tmp 28)), none⟩, 
     ⟨none, (.store1 (.tmp 29) (.tmp 27)), none⟩])
    (.seq (.ops [
      ⟨(some 2), (.mv (.const (.bool true))), none⟩])
     .ret)))))
theorem c42 {args : Array Value} {h : Heap} {R : Ending → Heap → Prop} (ha : args.size ≤ 30) (hh : aexec Try.prog ac42 (abody [(.slot 2)] R) ⟨initFr args.toList, []⟩ h) : HCalls Try.prog 42 args h R :=
  hcalls_of Try.func42 rfl rfl (by kernel_rfl) (by kernel_rfl) ha hh
/-- 43: slices.Collect[int] -/
def ac43 : ACode :=
 (.seq (.ops [
  ⟨(some 2), (.mv (.const (.slice none 0 0))), none⟩])
 (.seq (.ops [
   ⟨(some 3), (.mv (.tmp 0)), none⟩, 
   ⟨(some 4), (.callF 47 [(.const (.slice none 0 0)), (.tmp 3)]), none⟩, 
   ⟨(some 2), (.mv (.tmp 4)), none⟩])
  .ret))
theorem c43 {args : Array Value} {h : Heap} {R : Ending → Heap → Prop} (ha : args.size ≤ 5) (hh : aexec Try.prog ac43 (abody [(.slot 2)] R) ⟨initFr args.toList, []⟩ h) : HCalls Try.prog 43 args h R :=
  hcalls_of Try.func43 rfl rfl (by kernel_rfl) (by kernel_rfl) ha hh
/-- 44: slices.Sort[[]int,int] -/
def ac44 : ACode :=
 (.seq (.ops [
  ⟨(some 3), (.mv (.tmp 0)), none⟩, 
  ⟨(some 4), (.lenSl (.tmp 3)), none⟩, 
  ⟨(some 2), (.mv (.tmp 4)), none⟩])
 (.ops [
  ⟨(some 5), (.mv (.tmp 0)), none⟩, 
  ⟨(some 6), (.mv (.tmp 2)), none⟩, 
  ⟨(some 7), (.mv (.tmp 2)), none⟩, 
  ⟨(some 8), (.convInt .u64 (.tmp 7)), none⟩, 
  ⟨(some 9), (.callF 49 [(.tmp 8)]), none⟩, 
  ⟨(some 10), (.callF 48 [(.tmp 5), (.const (.int .i64 0)), (.tmp 6), (.tmp 9)]), none⟩]))
theorem c44 {args : Array Value} {h : Heap} {R : Ending → Heap → Prop} (ha : args.size ≤ 11) (hh : aexec Try.prog ac44 (abody [] R) ⟨initFr args.toList, []⟩ h) : HCalls Try.prog 44 args h R :=
  hcalls_of Try.func44 rfl rfl (by kernel_rfl) (by kernel_rfl) ha hh
/-- 48: slices.pdqsortOrdered[int] -/
def ac48 : ACode :=
 (.seq (.ops [
  ⟨(some 8), (.mv (.const (.bool true))), none⟩])
 (.seq (.ops [
   ⟨(some 9), (.mv (.const (.bool true))), none⟩])
  (.block 0
   (.loop
    (.block 1
     (.seq (.ops [
       ⟨(some 19), (.mv (.tmp 2)), none⟩, 
       ⟨(some 20), (.mv (.tmp 1)), none⟩, 
       ⟨(some 21), (.bin .sub (.tmp 19) (.tmp 20)), none⟩, 
       ⟨(some 10), (.mv (.tmp 21)), none⟩])
      (.seq (.seq (.ops [
         ⟨(some 22), (.mv (.tmp 10)), none⟩, 
         ⟨(some 23), (.bin .leq (.tmp 22) (.const (.int .i64 12))), none⟩])
        (.cond (.tmp 23)
         (.seq (.ops [
           ⟨(some 24), (.mv (.tmp 0)), none⟩, 
           ⟨(some 25), (.mv (.tmp 1)), none⟩, 
           ⟨(some 26), (.mv (.tmp 2)), none⟩, 
           ⟨(some 27), (.callF 50 [(.tmp 24), (.tmp 25), (.tmp 26)]), none⟩])
          .ret)
         .skip))
       (.seq (.seq (.ops [
          ⟨(some 28), (.mv (.tmp 3)), none⟩, 
          ⟨(some 29), (.bin .eql (.tmp 28) (.const (.int .i64 0))), none⟩])
         (.cond (.tmp 29)
          (.seq (.ops [
            ⟨(some 30), (.mv (.tmp 0)), none⟩, 
            ⟨(some 31), (.mv (.tmp 1)), none⟩, 
            ⟨(some 32), (.mv (.tmp 2)), none⟩, 
            ⟨(some 33), (.callF 51 [(.tmp 30), (.tmp 31), (.tmp 32)]), none⟩])
           .ret)
          .skip))
        (.seq (.seq (.ops [
           ⟨(some 34), (.mv (.tmp 8)), none⟩, 
           ⟨(some 35), (.un .not (.tmp 34)), none⟩])
          (.cond (.tmp 35)
           (.seq (.ops [
             ⟨(some 36), (.mv (.tmp 0)), none⟩, 
             ⟨(some 37), (.mv (.tmp 1)), none⟩, 
             ⟨(some 38), (.mv (.tmp 2)), none⟩, 
             ⟨(some 39), (.callF 52 [(.tmp 36), (.tmp 37), (.tmp 38)]), none⟩])
            (.ops [
             ⟨(some 40), (.mv (.tmp 3)), none⟩, 
             ⟨(some 41), (.bin .sub (.tmp 40) (.const (.int .i64 1))), none⟩, 
             ⟨(some 3), (.mv (.tmp 41)), none⟩]))
           .skip))
         (.seq (.ops [
           ⟨(some 43), (.mv (.tmp 0)), none⟩, 
           ⟨(some 44), (.mv (.tmp 1)), none⟩, 
           ⟨(some 45), (.mv (.tmp 2)), none⟩, 
           ⟨(some 46), (.callF 53 [(.tmp 43), (.tmp 44), (.tmp 45)]), none⟩, 
           ⟨(some 42), (.mv (.tmp 46)), none⟩, 
           ⟨(some 47), (.extract (.tmp 42) 0), none⟩, 
           ⟨(some 48), (.extract (.tmp 42) 1), none⟩, 
           ⟨(some 11), (.mv (.tmp 47)), none⟩, 
           ⟨(some 12), (.mv (.tmp 48)), none⟩])
          (.seq (.seq (.ops [
             ⟨(some 49), (.mv (.tmp 12)), none⟩, 
             ⟨(some 50), (.bin .eql (.tmp 49) (.const (.int .i64 2))), none⟩])
            (.cond (.tmp 50)
             (.seq (.ops [
               ⟨(some 51), (.mv (.tmp 0)), none⟩, 
               ⟨(some 52), (.mv (.tmp 1)), none⟩, 
               ⟨(some 53), (.mv (.tmp 2)), none⟩, 
               ⟨(some 54), (.callF 54 [(.tmp 51), (.tmp 52), (.tmp 53)]), none⟩])
              (.seq (.ops [
                ⟨(some 55), (.mv (.tmp 2)), none⟩, 
                ⟨(some 56), (.bin .sub (.tmp 55) (.const (.int .i64 1))), none⟩, 
                ⟨(some 57), (.mv (.tmp 11)), none⟩, 
                ⟨(some 58), (.mv (.tmp 1)), none⟩, 
                ⟨(some 59), (.bin .sub (.tmp 57) (.tmp 58)), none⟩, 
                ⟨(some 60), (.bin .sub (.tmp 56) (.tmp 59)), none⟩, 
                ⟨(some 11), (.mv (.tmp 60)), none⟩])
               (.ops [
                ⟨(some 12), (.mv (.const (.int .i64 1))), none⟩])))
             .skip))
           (.seq (.seq (.ops [
              ⟨(some 61), (.mv (.tmp 8)), none⟩, 
              ⟨(some 62), (.mv (.tmp 61)), none⟩, 
              ⟨(some 63), (.mv (.tmp 9)), (some (62, true))⟩, 
              ⟨(some 64), (.pick (.tmp 62) (.tmp 63) (.const (.bool false))), none⟩, 
              ⟨(some 65), (.mv (.tmp 64)), none⟩, 
              ⟨(some 66), (.mv (.tmp 12)), (some (65, true))⟩, 
              ⟨(some 67), (.bin .eql (.tmp 66) (.const (.int .i64 1))), (some (65, true))⟩, 
              ⟨(some 68), (.pick (.tmp 65) (.tmp 67) (.const (.bool false))), none⟩])
             (.cond (.tmp 68)
              (.seq (.ops [
                ⟨(some 69), (.mv (.tmp 0)), none⟩, 
                ⟨(some 70), (.mv (.tmp 1)), none⟩, 
                ⟨(some 71), (.mv (.tmp 2)), none⟩, 
                ⟨(some 72), (.callF 55 [(.tmp 69), (.tmp 70), (.tmp 71)]), none⟩])
               (.cond (.tmp 72)
                .ret
                .skip))
              .skip))
            (.seq (.seq (.any [73, 74, 75, 76, 77, 78, 79, 80, 81, 82, 83, 84, 85, 86, 87] [
               ⟨(some 73), (.mv (.tmp 1)), none⟩, 
               ⟨(some 74), (.bin .gtr (.tmp 73) (.const (.int .i64 0))), none⟩, 
               ⟨(some 75), (.mv (.tmp 74)), none⟩, 
               ⟨(some 76), (.mv (.tmp 0)), (some (75, true))⟩, 
               ⟨(some 77), (.mv (.tmp 1)), (some (75, true))⟩, 
               ⟨(some 78), (.bin .sub (.tmp 77) (.const (.int .i64 1))), (some (75, true))⟩, 
               ⟨(some 79), (.idxSl 1 (.tmp 76) (.tmp 78)), (some (75, true))⟩, 
               ⟨(some 80), (.load1 (.tmp 79)), (some (75, true))⟩, 
               ⟨(some 81), (.mv (.tmp 0)), (some (75, true))⟩, 
               ⟨(some 82), (.mv (.tmp 11)), (some (75, true))⟩, 
               ⟨(some 83), (.idxSl 1 (.tmp 81) (.tmp 82)), (some (75, true))⟩, 
               ⟨(some 84), (.load1 (.tmp 83)), (some (75, true))⟩, 
               ⟨(some 85), (.callF 56 [(.tmp 80), (.tmp 84)]), (some (75, true))⟩, 
               ⟨(some 86), (.un .not (.tmp 85)), (some (75, true))⟩, 
               ⟨(some 87), (.pick (.tmp 75) (.tmp 86) (.const (.bool false))), none⟩])
              (.cond (.tmp 87)
               (.seq (.ops [
                 ⟨(some 88), (.mv (.tmp 0)), none⟩, 
                 ⟨(some 89), (.mv (.tmp 1)), none⟩, 
                 ⟨(some 90), (.mv (.tmp 2)), none⟩, 
                 ⟨(some 91), (.mv (.tmp 11)), none⟩, 
                 ⟨(some 92), (.callF 57 [(.tmp 88), (.tmp 89), (.tmp 90), (.tmp 91)]), none⟩, 
                 ⟨(some 13), (.mv (.tmp 92)), none⟩])
                (.seq (.ops [
                  ⟨(some 93), (.mv (.tmp 13)), none⟩, 
                  ⟨(some 1), (.mv (.tmp 93)), none⟩])
                 (.exit 1)))
               .skip))
             (.seq (.ops [
               ⟨(some 95), (.mv (.tmp 0)), none⟩, 
               ⟨(some 96), (.mv (.tmp 1)), none⟩, 
               ⟨(some 97), (.mv (.tmp 2)), none⟩, 
               ⟨(some 98), (.mv (.tmp 11)), none⟩, 
               ⟨(some 99), (.callF 58 [(.tmp 95), (.tmp 96), (.tmp 97), (.tmp 98)]), none⟩, 
               ⟨(some 94), (.mv (.tmp 99)), none⟩, 
               ⟨(some 100), (.extract (.tmp 94) 0), none⟩, 
               ⟨(some 101), (.extract (.tmp 94) 1), none⟩, 
               ⟨(some 14), (.mv (.tmp 100)), none⟩, 
               ⟨(some 15), (.mv (.tmp 101)), none⟩])
              (.seq (.ops [
                ⟨(some 102), (.mv (.tmp 15)), none⟩, 
                ⟨(some 9), (.mv (.tmp 102)), none⟩])
               (.seq (.ops [
                 ⟨(some 103), (.mv (.tmp 14)), none⟩, 
                 ⟨(some 104), (.mv (.tmp 1)), none⟩, 
                 ⟨(some 105), (.bin .sub (.tmp 103) (.tmp 104)), none⟩, 
                 ⟨(some 106), (.mv (.tmp 2)), none⟩, 
                 ⟨(some 107), (.mv (.tmp 14)), none⟩, 
                 ⟨(some 108), (.bin .sub (.tmp 106) (.tmp 107)), none⟩, 
                 ⟨(some 16), (.mv (.tmp 105)), none⟩, 
                 ⟨(some 17), (.mv (.tmp 108)), none⟩])
                (.seq (.ops [
                  ⟨(some 109), (.mv (.tmp 10)), none⟩, 
                  ⟨(some 110), (.bin .quo (.tmp 109) (.const (.int .i64 8))), none⟩, 
                  ⟨(some 18), (.mv (.tmp 110)), none⟩])
                 (.seq (.ops [
                   ⟨(some 111), (.mv (.tmp 16)), none⟩, 
                   ⟨(some 112), (.mv (.tmp 17)), none⟩, 
                   ⟨(some 113), (.bin .lss (.tmp 111) (.tmp 112)), none⟩])
                  (.cond (.tmp 113)
                   (.seq (.ops [
                     ⟨(some 114), (.mv (.tmp 16)), none⟩, 
                     ⟨(some 115), (.mv (.tmp 18)), none⟩, 
                     ⟨(some 116), (.bin .geq (.tmp 114) (.tmp 115)), none⟩, 
                     ⟨(some 8), (.mv (.tmp 116)), none⟩])
                    (.seq (.ops [
                      ⟨(some 117), (.mv (.tmp 0)), none⟩, 
                      ⟨(some 118), (.mv (.tmp 1)), none⟩, 
                      ⟨(some 119), (.mv (.tmp 14)), none⟩, 
                      ⟨(some 120), (.mv (.tmp 3)), none⟩, 
                      ⟨(some 121), (.callF 48 [(.tmp 117), (.tmp 118), (.tmp 119), (.tmp 120)]), none⟩])
                     (.ops [
                      ⟨(some 122), (.mv (.tmp 14)), none⟩, 
                      ⟨(some 123), (.bin .add (.tmp 122) (.const (.int .i64 1))), none⟩, 
                      ⟨(some 1), (.mv (.tmp 123)), none⟩])))
                   (.seq (.ops [
                     ⟨(some 124), (.mv (.tmp 17)), none⟩, 
                     ⟨(some 125), (.mv (.tmp 18)), none⟩, 
                     ⟨(some 126), (.bin .geq (.tmp 124) (.tmp 125)), none⟩, 
                     ⟨(some 8), (.mv (.tmp 126)), none⟩])
                    (.seq (.ops [
                      ⟨(some 127), (.mv (.tmp 0)), none⟩, 
                      ⟨(some 128), (.mv (.tmp 14)), none⟩, 
                      ⟨(some 129), (.bin .add (.tmp 128) (.const (.int .i64 1))), none⟩, 
                      ⟨(some 130), (.mv (.tmp 2)), none⟩, 
                      ⟨(some 131), (.mv (.tmp 3)), none⟩, 
                      ⟨(some 132), (.callF 48 [(.tmp 127), (.tmp 129), (.tmp 130), (.tmp 131)]), none⟩])
                     (.ops [
                      ⟨(some 133), (.mv (.tmp 14)), none⟩, 
                      ⟨(some 2), (.mv (.tmp 133)), none⟩]))))))))))))))))))))))
theorem c48 {args : Array Value} {h : Heap} {R : Ending → Heap → Prop} (ha : args.size ≤ 134) (hh : aexec Try.prog ac48 (abody [] R) ⟨initFr args.toList, []⟩ h) : HCalls Try.prog 48 args h R :=
  hcalls_of Try.func48 rfl rfl (by kernel_rfl) (by kernel_rfl) ha hh
/-- 49: math/bits.Len -/
def ac49 : ACode :=
 (.seq (.ops [
  ⟨(some 2), (.mv (.const (.int .i64 0))), none⟩])
 (.seq (.cond (.const (.bool false))
   (.seq (.ops [
     ⟨(some 3), (.mv (.tmp 0)), none⟩, 
     ⟨(some 4), (.convInt .u32 (.tmp 3)), none⟩, 
     ⟨(some 5), (.callF 59 [(.tmp 4)]), none⟩, 
     ⟨(some 2), (.mv (.tmp 5)), none⟩])
    .ret)
   .skip)
  (.seq (.ops [
    ⟨(some 6), (.mv (.tmp 0)), none⟩, 
    ⟨(some 7), (.callF 60 [(.tmp 6)]), none⟩, 
    ⟨(some 2), (.mv (.tmp 7)), none⟩])
   .ret)))
theorem c49 {args : Array Value} {h : Heap} {R : Ending → Heap → Prop} (ha : args.size ≤ 8) (hh : aexec Try.prog ac49 (abody [(.slot 2)] R) ⟨initFr args.toList, []⟩ h) : HCalls Try.prog 49 args h R :=
  hcalls_of Try.func49 rfl rfl (by kernel_rfl) (by kernel_rfl) ha hh
/-- 50: slices.insertionSortOrdered[int] -/
def ac50 : ACode :=
 (.seq (.ops [
  ⟨(some 8), (.mv (.tmp 1)), none⟩, 
  ⟨(some 9), (.bin .add (.tmp 8) (.const (.int .i64 1))), none⟩, 
  ⟨(some 6), (.mv (.tmp 9)), none⟩])
 (.block 0
  (.loop
   (.seq (.seq (.ops [
      ⟨(some 10), (.mv (.tmp 6)), none⟩, 
      ⟨(some 11), (.mv (.tmp 2)), none⟩, 
      ⟨(some 12), (.bin .lss (.tmp 10) (.tmp 11)), none⟩])
     (.cond (.tmp 12)
      .skip
      (.exit 0)))
    (.seq (.block 1
      (.seq (.ops [
        ⟨(some 15), (.mv (.tmp 6)), none⟩, 
        ⟨(some 7), (.mv (.tmp 15)), none⟩])
       (.block 2
        (.loop
         (.seq (.seq (.any [16, 17, 18, 19, 20, 21, 22, 23, 24, 25, 26, 27, 28, 29, 30] [
            ⟨(some 16), (.mv (.tmp 7)), none⟩, 
            ⟨(some 17), (.mv (.tmp 1)), none⟩, 
            ⟨(some 18), (.bin .gtr (.tmp 16) (.tmp 17)), none⟩, 
            ⟨(some 19), (.mv (.tmp 18)), none⟩, 
            ⟨(some 20), (.mv (.tmp 0)), (some (19, true))⟩, 
            ⟨(some 21), (.mv (.tmp 7)), (some (19, true))⟩, 
            ⟨(some 22), (.idxSl 1 (.tmp 20) (.tmp 21)), (some (19, true))⟩, 
            ⟨(some 23), (.load1 (.tmp 22)), (some (19, true))⟩, 
            ⟨(some 24), (.mv (.tmp 0)), (some (19, true))⟩, 
            ⟨(some 25), (.mv (.tmp 7)), (some (19, true))⟩, 
            ⟨(some 26), (.bin .sub (.tmp 25) (.const (.int .i64 1))), (some (19, true))⟩, 
            ⟨(some 27), (.idxSl 1 (.tmp 24) (.tmp 26)), (some (19, true))⟩, 
            ⟨(some 28), (.load1 (.tmp 27)), (some (19, true))⟩, 
            ⟨(some 29), (.callF 56 [(.tmp 23), (.tmp 28)]), (some (19, true))⟩, 
            ⟨(some 30), (.pick (.tmp 19) (.tmp 29) (.const (.bool false))), none⟩])
           (.cond (.tmp 30)
            .skip
            (.exit 2)))
          (.seq (.block 3
            (.any [33, 34, 35, 36, 37, 38, 39, 40, 41, 42, 43, 44, 45, 46, 47, 48] [
             ⟨(some 33), (.mv (.tmp 0)), none⟩, 
             ⟨(some 34), (.mv (.tmp 7)), none⟩, 
             ⟨(some 35), (.mv (.tmp 0)), none⟩, 
             ⟨(some 36), (.mv (.tmp 7)), none⟩, 
             ⟨(some 37), (.bin .sub (.tmp 36) (.const (.int .i64 1))), none⟩, 
             ⟨(some 38), (.mv (.tmp 0)), none⟩, 
             ⟨(some 39), (.mv (.tmp 7)), none⟩, 
             ⟨(some 40), (.bin .sub (.tmp 39) (.const (.int .i64 1))), none⟩, 
             ⟨(some 41), (.idxSl 1 (.tmp 38) (.tmp 40)), none⟩, 
             ⟨(some 42), (.load1 (.tmp 41)), none⟩, 
             ⟨(some 43), (.mv (.tmp 0)), none⟩, 
             ⟨(some 44), (.mv (.tmp 7)), none⟩, 
             ⟨(some 45), (.idxSl 1 (.tmp 43) (.tmp 44)), none⟩, 
             ⟨(some 46), (.load1 (.tmp 45)), none⟩, 
             ⟨(some 47), (.idxSl 1 (.tmp 33) (.tmp 34)), none⟩, 
             ⟨none, (.store1 (.tmp 47) (.tmp 42)), none⟩, 
             ⟨(some 48), (.idxSl 1 (.tmp 35) (.tmp 37)), none⟩, 
             ⟨none, (.store1 (.tmp 48) (.tmp 46)), none⟩]))
           (.ops [
            ⟨(some 31), (.mv (.tmp 7)), none⟩, 
            ⟨(some 32), (.bin .sub (.tmp 31) (.const (.int .i64 1))), none⟩, 
            ⟨(some 7), (.mv (.tmp 32)), none⟩])))))))
     (.ops [
      ⟨(some 13), (.mv (.tmp 6)), none⟩, 
      ⟨(some 14), (.bin .add (.tmp 13) (.const (.int .i64 1))), none⟩, 
      ⟨(some 6), (.mv (.tmp 14)), none⟩]))))))
theorem c50 {args : Array Value} {h : Heap} {R : Ending → Heap → Prop} (ha : args.size ≤ 49) (hh : aexec Try.prog ac50 (abody [] R) ⟨initFr args.toList, []⟩ h) : HCalls Try.prog 50 args h R :=
  hcalls_of Try.func50 rfl rfl (by kernel_rfl) (by kernel_rfl) ha hh
/-- 51: slices.heapSortOrdered[int] -/
def ac51 : ACode :=
 (.seq (.ops [
  ⟨(some 11), (.mv (.tmp 1)), none⟩, 
  ⟨(some 6), (.mv (.tmp 11)), none⟩])
 (.seq (.ops [
   ⟨(some 7), (.mv (.const (.int .i64 0))), none⟩])
  (.seq (.ops [
    ⟨(some 12), (.mv (.tmp 2)), none⟩, 
    ⟨(some 13), (.mv (.tmp 1)), none⟩, 
    ⟨(some 14), (.bin .sub (.tmp 12) (.tmp 13)), none⟩, 
    ⟨(some 8), (.mv (.tmp 14)), none⟩])
   (.seq (.seq (.ops [
      ⟨(some 15), (.mv (.tmp 8)), none⟩, 
      ⟨(some 16), (.bin .sub (.tmp 15) (.const (.int .i64 1))), none⟩, 
      ⟨(some 17), (.bin .quo (.tmp 16) (.const (.int .i64 2))), none⟩, 
      ⟨(some 9), (.mv (.tmp 17)), none⟩])
     (.block 0
      (.loop
       (.seq (.seq (.ops [
          ⟨(some 18), (.mv (.tmp 9)), none⟩, 
          ⟨(some 19), (.bin .geq (.tmp 18) (.const (.int .i64 0))), none⟩])
         (.cond (.tmp 19)
          .skip
          (.exit 0)))
        (.seq (.block 1
          (.ops [
           ⟨(some 22), (.mv (.tmp 0)), none⟩, 
           ⟨(some 23), (.mv (.tmp 9)), none⟩, 
           ⟨(some 24), (.mv (.tmp 8)), none⟩, 
           ⟨(some 25), (.mv (.tmp 6)), none⟩, 
           ⟨(some 26), (.callF 61 [(.tmp 22), (.tmp 23), (.tmp 24), (.tmp 25)]), none⟩]))
         (.ops [
          ⟨(some 20), (.mv (.tmp 9)), none⟩, 
          ⟨(some 21), (.bin .sub (.tmp 20) (.const (.int .i64 1))), none⟩, 
          ⟨(some 9), (.mv (.tmp 21)), none⟩]))))))
    (.seq (.ops [
      ⟨(some 27), (.mv (.tmp 8)), none⟩, 
      ⟨(some 28), (.bin .sub (.tmp 27) (.const (.int .i64 1))), none⟩, 
      ⟨(some 10), (.mv (.tmp 28)), none⟩])
     (.block 2
      (.loop
       (.seq (.seq (.ops [
          ⟨(some 29), (.mv (.tmp 10)), none⟩, 
          ⟨(some 30), (.bin .geq (.tmp 29) (.const (.int .i64 0))), none⟩])
         (.cond (.tmp 30)
          .skip
          (.exit 2)))
        (.seq (.block 3
          (.seq (.any [33, 34, 35, 36, 37, 38, 39, 40, 41, 42, 43, 44, 45, 46, 47, 48, 49, 50] [
            ⟨(some 33), (.mv (.tmp 0)), none⟩, 
            ⟨(some 34), (.mv (.tmp 6)), none⟩, 
            ⟨(some 35), (.mv (.tmp 0)), none⟩, 
            ⟨(some 36), (.mv (.tmp 6)), none⟩, 
            ⟨(some 37), (.mv (.tmp 10)), none⟩, 
            ⟨(some 38), (.bin .add (.tmp 36) (.tmp 37)), none⟩, 
            ⟨(some 39), (.mv (.tmp 0)), none⟩, 
            ⟨(some 40), (.mv (.tmp 6)), none⟩, 
            ⟨(some 41), (.mv (.tmp 10)), none⟩, 
            ⟨(some 42), (.bin .add (.tmp 40) (.tmp 41)), none⟩, 
            ⟨(some 43), (.idxSl 1 (.tmp 39) (.tmp 42)), none⟩, 
            ⟨(some 44), (.load1 (.tmp 43)), none⟩, 
            ⟨(some 45), (.mv (.tmp 0)), none⟩, 
            ⟨(some 46), (.mv (.tmp 6)), none⟩, 
            ⟨(some 47), (.idxSl 1 (.tmp 45) (.tmp 46)), none⟩, 
            ⟨(some 48), (.load1 (.tmp 47)), none⟩, 
            ⟨(some 49), (.idxSl 1 (.tmp 33) (.tmp 34)), none⟩, 
            ⟨none, (.store1 (.tmp 49) (.tmp 44)), none⟩, 
            ⟨(some 50), (.idxSl 1 (.tmp 35) (.tmp 38)), none⟩, 
            ⟨none, (.store1 (.tmp 50) (.tmp 48)), none⟩])
           (.ops [
            ⟨(some 51), (.mv (.tmp 0)), none⟩, 
            ⟨(some 52), (.mv (.tmp 7)), none⟩, 
            ⟨(some 53), (.mv (.tmp 10)), none⟩, 
            ⟨(some 54), (.mv (.tmp 6)), none⟩, 
            ⟨(some 55), (.callF 61 [(.tmp 51), (.tmp 52), (.tmp 53), (.tmp 54)]), none⟩])))
         (.ops [
          ⟨(some 31), (.mv (.tmp 10)), none⟩, 
          ⟨(some 32), (.bin .sub (.tmp 31) (.const (.int .i64 1))), none⟩, 
          ⟨(some 10), (.mv (.tmp 32)), none⟩]))))))))))
theorem c51 {args : Array Value} {h : Heap} {R : Ending → Heap → Prop} (ha : args.size ≤ 56) (hh : aexec Try.prog ac51 (abody [] R) ⟨initFr args.toList, []⟩ h) : HCalls Try.prog 51 args h R :=
  hcalls_of Try.func51 rfl rfl (by kernel_rfl) (by kernel_rfl) ha hh
/-- 52: slices.breakPatternsOrdered[int] -/
def ac52 : ACode :=
 (.seq (.ops [
  ⟨(some 11), (.mv (.tmp 2)), none⟩, 
  ⟨(some 12), (.mv (.tmp 1)), none⟩, 
  ⟨(some 13), (.bin .sub (.tmp 11) (.tmp 12)), none⟩, 
  ⟨(some 6), (.mv (.tmp 13)), none⟩])
 (.seq (.ops [
   ⟨(some 14), (.mv (.tmp 6)), none⟩, 
   ⟨(some 15), (.bin .geq (.tmp 14) (.const (.int .i64 8))), none⟩])
  (.cond (.tmp 15)
   (.seq (.ops [
     ⟨(some 16), (.mv (.tmp 6)), none⟩, 
     ⟨(some 17), (.convInt .u64 (.tmp 16)), none⟩, 
     ⟨(some 7), (.new 89 [(.int .u64 0)]), none⟩, 
     ⟨none, (.store1 (.tmp 7) (.tmp 17)), none⟩])
    (.seq (.ops [
      ⟨(some 18), (.mv (.tmp 6)), none⟩, 
      ⟨(some 19), (.callF 62 [(.tmp 18)]), none⟩, 
      ⟨(some 8), (.mv (.tmp 19)), none⟩])
     (.seq (.ops [
       ⟨(some 20), (.mv (.tmp 1)), none⟩, 
       ⟨(some 21), (.mv (.tmp 6)), none⟩, 
       ⟨(some 22), (.bin .quo (.tmp 21) (.const (.int .i64 4))), none⟩, 
       ⟨(some 23), (.bin .mul (.tmp 22) (.const (.int .i64 2))), none⟩, 
       ⟨(some 24), (.bin .add (.tmp 20) (.tmp 23)), none⟩, 
       ⟨(some 25), (.bin .sub (.tmp 24) (.const (.int .i64 1))), none⟩, 
       ⟨(some 9), (.mv (.tmp 25)), none⟩])
      (.block 0
       (.loop
        (.seq (.seq (.ops [
           ⟨(some 26), (.mv (.tmp 9)), none⟩, 
           ⟨(some 27), (.mv (.tmp 1)), none⟩, 
           ⟨(some 28), (.mv (.tmp 6)), none⟩, 
           ⟨(some 29), (.bin .quo (.tmp 28) (.const (.int .i64 4))), none⟩, 
           ⟨(some 30), (.bin .mul (.tmp 29) (.const (.int .i64 2))), none⟩, 
           ⟨(some 31), (.bin .add (.tmp 27) (.tmp 30)), none⟩, 
           ⟨(some 32), (.bin .add (.tmp 31) (.const (.int .i64 1))), none⟩, 
           ⟨(some 33), (.bin .leq (.tmp 26) (.tmp 32)), none⟩])
          (.cond (.tmp 33)
           .skip
           (.exit 0)))
         (.seq (.block 1
           (.seq (.ops [
             ⟨(some 36), (.callF 63 [(.tmp 7)]), none⟩, 
             ⟨(some 37), (.mv (.tmp 8)), none⟩, 
             ⟨(some 38), (.bin .sub (.tmp 37) (.const (.int .u64 1))), none⟩, 
             ⟨(some 39), (.bin .and (.tmp 36) (.tmp 38)), none⟩, 
             ⟨(some 40), (.convInt .i64 (.tmp 39)), none⟩, 
             ⟨(some 10), (.mv (.tmp 40)), none⟩])
            (.seq (.seq (.ops [
               ⟨(some 41), (.mv (.tmp 10)), none⟩, 
               ⟨(some 42), (.mv (.tmp 6)), none⟩, 
               ⟨(some 43), (.bin .geq (.tmp 41) (.tmp 42)), none⟩])
              (.cond (.tmp 43)
               (.ops [
                ⟨(some 44), (.mv (.tmp 10)), none⟩, 
                ⟨(some 45), (.mv (.tmp 6)), none⟩, 
                ⟨(some 46), (.bin .sub (.tmp 44) (.tmp 45)), none⟩, 
                ⟨(some 10), (.mv (.tmp 46)), none⟩])
               .skip))
             (.any [47, 48, 49, 50, 51, 52, 53, 54, 55, 56, 57, 58, 59, 60, 61, 62, 63, 64] [
              ⟨(some 47), (.mv (.tmp 0)), none⟩, 
              ⟨(some 48), (.mv (.tmp 9)), none⟩, 
              ⟨(some 49), (.mv (.tmp 0)), none⟩, 
              ⟨(some 50), (.mv (.tmp 1)), none⟩, 
              ⟨(some 51), (.mv (.tmp 10)), none⟩, 
              ⟨(some 52), (.bin .add (.tmp 50) (.tmp 51)), none⟩, 
              ⟨(some 53), (.mv (.tmp 0)), none⟩, 
              ⟨(some 54), (.mv (.tmp 1)), none⟩, 
              ⟨(some 55), (.mv (.tmp 10)), none⟩, 
              ⟨(some 56), (.bin .add (.tmp 54) (.tmp 55)), none⟩, 
              ⟨(some 57), (.idxSl 1 (.tmp 53) (.tmp 56)), none⟩, 
              ⟨(some 58), (.load1 (.tmp 57)), none⟩, 
              ⟨(some 59), (.mv (.tmp 0)), none⟩, 
              ⟨(some 60), (.mv (.tmp 9)), none⟩, 
              ⟨(some 61), (.idxSl 1 (.tmp 59) (.tmp 60)), none⟩, 
              ⟨(some 62), (.load1 (.tmp 61)), none⟩, 
              ⟨(some 63), (.idxSl 1 (.tmp 47) (.tmp 48)), none⟩, 
              ⟨none, (.store1 (.tmp 63) (.tmp 58)), none⟩, 
              ⟨(some 64), (.idxSl 1 (.tmp 49) (.tmp 52)), none⟩, 
              ⟨none, (.store1 (.tmp 64) (.tmp 62)), none⟩]))))
          (.ops [
           ⟨(some 34), (.mv (.tmp 9)), none⟩, 
           ⟨(some 35), (.bin .add (.tmp 34) (.const (.int .i64 1))), none⟩, 
           ⟨(some 9), (.mv (.tmp 35)), none⟩]))))))))
   .skip)))
theorem c52 {args : Array Value} {h : Heap} {R : Ending → Heap → Prop} (ha : args.size ≤ 65) (hh : aexec Try.prog ac52 (abody [] R) ⟨initFr args.toList, []⟩ h) : HCalls Try.prog 52 args h R :=
  hcalls_of Try.func52 rfl rfl (by kernel_rfl) (by kernel_rfl) ha hh
/-- 53: slices.choosePivotOrdered[int] -/
def ac53 : ACode :=
 (.seq (.ops [
  ⟨(some 6), (.mv (.const (.int .i64 0))), none⟩, 
  ⟨(some 7), (.mv (.const (.int .i64 0))), none⟩])
 (.seq (.ops [
   ⟨(some 13), (.mv (.tmp 2)), none⟩, 
   ⟨(some 14), (.mv (.tmp 1)), none⟩, 
   ⟨(some 15), (.bin .sub (.tmp 13) (.tmp 14)), none⟩, 
   ⟨(some 8), (.mv (.tmp 15)), none⟩])
  (.seq (.ops [
    ⟨(some 9), (.new 3 [(.int .i64 0)]), none⟩])
   (.seq (.ops [
     ⟨(some 16), (.mv (.tmp 1)), none⟩, 
     ⟨(some 17), (.mv (.tmp 8)), none⟩, 
     ⟨(some 18), (.bin .quo (.tmp 17) (.const (.int .i64 4))), none⟩, 
     ⟨(some 19), (.bin .mul (.tmp 18) (.const (.int .i64 1))), none⟩, 
     ⟨(some 20), (.bin .add (.tmp 16) (.tmp 19)), none⟩, 
     ⟨(some 10), (.mv (.tmp 20)), none⟩])
    (.seq (.ops [
      ⟨(some 21), (.mv (.tmp 1)), none⟩, 
      ⟨(some 22), (.mv (.tmp 8)), none⟩, 
      ⟨(some 23), (.bin .quo (.tmp 22) (.const (.int .i64 4))), none⟩, 
      ⟨(some 24), (.bin .mul (.tmp 23) (.const (.int .i64 2))), none⟩, 
      ⟨(some 25), (.bin .add (.tmp 21) (.tmp 24)), none⟩, 
      ⟨(some 11), (.mv (.tmp 25)), none⟩])
     (.seq (.ops [
       ⟨(some 26), (.mv (.tmp 1)), none⟩, 
       ⟨(some 27), (.mv (.tmp 8)), none⟩, 
       ⟨(some 28), (.bin .quo (.tmp 27) (.const (.int .i64 4))), none⟩, 
       ⟨(some 29), (.bin .mul (.tmp 28) (.const (.int .i64 3))), none⟩, 
       ⟨(some 30), (.bin .add (.tmp 26) (.tmp 29)), none⟩, 
       ⟨(some 12), (.mv (.tmp 30)), none⟩])
      (.seq (.seq (.ops [
         ⟨(some 31), (.mv (.tmp 8)), none⟩, 
         ⟨(some 32), (.bin .geq (.tmp 31) (.const (.int .i64 8))), none⟩])
        (.cond (.tmp 32)
         (.seq (.seq (.ops [
            ⟨(some 33), (.mv (.tmp 8)), none⟩, 
            ⟨(some 34), (.bin .geq (.tmp 33) (.const (.int .i64 50))), none⟩])
           (.cond (.tmp 34)
            (.seq (.ops [
              ⟨(some 35), (.mv (.tmp 0)), none⟩, 
              ⟨(some 36), (.mv (.tmp 10)), none⟩, 
              ⟨(some 37), (.callF 64 [(.tmp 35), (.tmp 36), (.tmp 9)]), none⟩, 
              ⟨(some 10), (.mv (.tmp 37)), none⟩])
             (.seq (.ops [
               ⟨(some 38), (.mv (.tmp 0)), none⟩, 
               ⟨(some 39), (.mv (.tmp 11)), none⟩, 
               ⟨(some 40), (.callF 64 [(.tmp 38), (.tmp 39), (.tmp 9)]), none⟩, 
               ⟨(some 11), (.mv (.tmp 40)), none⟩])
              (.ops [
               ⟨(some 41), (.mv (.tmp 0)), none⟩, 
               ⟨(some 42), (.mv (.tmp 12)), none⟩, 
               ⟨(some 43), (.callF 64 [(.tmp 41), (.tmp 42), (.tmp 9)]), none⟩, 
               ⟨(some 12), (.mv (.tmp 43)), none⟩])))
            .skip))
          (.ops [
           ⟨(some 44), (.mv (.tmp 0)), none⟩, 
           ⟨(some 45), (.mv (.tmp 10)), none⟩, 
           ⟨(some 46), (.mv (.tmp 11)), none⟩, 
           ⟨(some 47), (.mv (.tmp 12)), none⟩, 
           ⟨(some 48), (.callF 65 [(.tmp 44), (.tmp 45), (.tmp 46), (.tmp 47), (.tmp 9)]), none⟩, 
           ⟨(some 11), (.mv (.tmp 48)), none⟩]))
         .skip))
       (.seq (.ops [
         ⟨(some 49), (.load1 (.tmp 9)), none⟩])
        (.block 0
         (.seq (.ops [
           ⟨(some 52), (.bin .eql (.tmp 49) (.const (.int .i64 0))), none⟩, 
           ⟨(some 51), (.mv (.tmp 52)), none⟩])
          (.cond (.tmp 51)
           (.seq (.ops [
             ⟨(some 53), (.mv (.tmp 11)), none⟩, 
             ⟨(some 6), (.mv (.tmp 53)), none⟩, 
             ⟨(some 7), (.mv (.const (.int .i64 1))), none⟩])
            .ret)
           (.seq (.ops [
             ⟨(some 55), (.bin .eql (.tmp 49) (.const (.int .i64 12))), none⟩, 
             ⟨(some 54), (.mv (.tmp 55)), none⟩])
            (.cond (.tmp 54)
             (.seq (.ops [
               ⟨(some 56), (.mv (.tmp 11)), none⟩, 
               ⟨(some 6), (.mv (.tmp 56)), none⟩, 
               ⟨(some 7), (.mv (.const (.int .i64 2))), none⟩])
              .ret)
             (.seq (.ops [
               ⟨(some 50), (.mv (.tmp 11)), none⟩, 
               ⟨(some 6), (.mv (.tmp 50)), none⟩, 
               ⟨(some 7), (.mv (.const (.int .i64 0))), none⟩])
              .ret))))))))))))))
theorem c53 {args : Array Value} {h : Heap} {R : Ending → Heap → Prop} (ha : args.size ≤ 57) (hh : aexec Try.prog ac53 (abody [(.slot 6), (.slot 7)] R) ⟨initFr args.toList, []⟩ h) : HCalls Try.prog 53 args h R :=
  hcalls_of Try.func53 rfl rfl (by kernel_rfl) (by kernel_rfl) ha hh
/-- 54: slices.reverseRangeOrdered[int] -/
def ac54 : ACode :=
 (.seq (.ops [
  ⟨(some 8), (.mv (.tmp 1)), none⟩, 
  ⟨(some 6), (.mv (.tmp 8)), none⟩])
 (.seq (.ops [
   ⟨(some 9), (.mv (.tmp 2)), none⟩, 
   ⟨(some 10), (.bin .sub (.tmp 9) (.const (.int .i64 1))), none⟩, 
   ⟨(some 7), (.mv (.tmp 10)), none⟩])
  (.block 0
   (.loop
    (.seq (.seq (.ops [
       ⟨(some 11), (.mv (.tmp 6)), none⟩, 
       ⟨(some 12), (.mv (.tmp 7)), none⟩, 
       ⟨(some 13), (.bin .lss (.tmp 11) (.tmp 12)), none⟩])
      (.cond (.tmp 13)
       .skip
       (.exit 0)))
     (.block 1
      (.seq (.any [14, 15, 16, 17, 18, 19, 20, 21, 22, 23, 24, 25, 26, 27] [
        ⟨(some 14), (.mv (.tmp 0)), none⟩, 
        ⟨(some 15), (.mv (.tmp 6)), none⟩, 
        ⟨(some 16), (.mv (.tmp 0)), none⟩, 
        ⟨(some 17), (.mv (.tmp 7)), none⟩, 
        ⟨(some 18), (.mv (.tmp 0)), none⟩, 
        ⟨(some 19), (.mv (.tmp 7)), none⟩, 
        ⟨(some 20), (.idxSl 1 (.tmp 18) (.tmp 19)), none⟩, 
        ⟨(some 21), (.load1 (.tmp 20)), none⟩, 
        ⟨(some 22), (.mv (.tmp 0)), none⟩, 
        ⟨(some 23), (.mv (.tmp 6)), none⟩, 
        ⟨(some 24), (.idxSl 1 (.tmp 22) (.tmp 23)), none⟩, 
        ⟨(some 25), (.load1 (.tmp 24)), none⟩, 
        ⟨(some 26), (.idxSl 1 (.tmp 14) (.tmp 15)), none⟩, 
        ⟨none, (.store1 (.tmp 26) (.tmp 21)), none⟩, 
        ⟨(some 27), (.idxSl 1 (.tmp 16) (.tmp 17)), none⟩, 
        ⟨none, (.store1 (.tmp 27) (.tmp 25)), none⟩])
       (.seq (.ops [
         ⟨(some 28), (.mv (.tmp 6)), none⟩, 
         ⟨(some 29), (.bin .add (.tmp 28) (.const (.int .i64 1))), none⟩, 
         ⟨(some 6), (.mv (.tmp 29)), none⟩])
        (.ops [
         ⟨(some 30), (.mv (.tmp 7)), none⟩, 
         ⟨(some 31), (.bin .sub (.tmp 30) (.const (.int .i64 1))), none⟩, 
         ⟨(some 7), (.mv (.tmp 31)), none⟩])))))))))
theorem c54 {args : Array Value} {h : Heap} {R : Ending → Heap → Prop} (ha : args.size ≤ 32) (hh : aexec Try.prog ac54 (abody [] R) ⟨initFr args.toList, []⟩ h) : HCalls Try.prog 54 args h R :=
  hcalls_of Try.func54 rfl rfl (by kernel_rfl) (by kernel_rfl) ha hh
/-- 55: slices.partialInsertionSortOrdered[int] -/
def ac55 : ACode :=
 (.seq (.ops [
  ⟨(some 6), (.mv (.const (.bool false))), none⟩])
 (.seq (.ops [
   ⟨(some 11), (.mv (.tmp 1)), none⟩, 
   ⟨(some 12), (.bin .add (.tmp 11) (.const (.int .i64 1))), none⟩, 
   ⟨(some 7), (.mv (.tmp 12)), none⟩])
  (.seq (.seq (.ops [
     ⟨(some 8), (.mv (.const (.int .i64 0))), none⟩])
    (.block 0
     (.loop
      (.seq (.seq (.ops [
         ⟨(some 13), (.mv (.tmp 8)), none⟩, 
         ⟨(some 14), (.bin .lss (.tmp 13) (.const (.int .i64 5))), none⟩])
        (.cond (.tmp 14)
         .skip
         (.exit 0)))
       (.seq (.block 1
         (.seq (.block 2
           (.loop
            (.seq (.seq (.any [17, 18, 19, 20, 21, 22, 23, 24, 25, 26, 27, 28, 29, 30, 31, 32] [
               ⟨(some 17), (.mv (.tmp 7)), none⟩, 
               ⟨(some 18), (.mv (.tmp 2)), none⟩, 
               ⟨(some 19), (.bin .lss (.tmp 17) (.tmp 18)), none⟩, 
               ⟨(some 20), (.mv (.tmp 19)), none⟩, 
               ⟨(some 21), (.mv (.tmp 0)), (some (20, true))⟩, 
               ⟨(some 22), (.mv (.tmp 7)), (some (20, true))⟩, 
               ⟨(some 23), (.idxSl 1 (.tmp 21) (.tmp 22)), (some (20, true))⟩, 
               ⟨(some 24), (.load1 (.tmp 23)), (some (20, true))⟩, 
               ⟨(some 25), (.mv (.tmp 0)), (some (20, true))⟩, 
               ⟨(some 26), (.mv (.tmp 7)), (some (20, true))⟩, 
               ⟨(some 27), (.bin .sub (.tmp 26) (.const (.int .i64 1))), (some (20, true))⟩, 
               ⟨(some 28), (.idxSl 1 (.tmp 25) (.tmp 27)), (some (20, true))⟩, 
               ⟨(some 29), (.load1 (.tmp 28)), (some (20, true))⟩, 
               ⟨(some 30), (.callF 56 [(.tmp 24), (.tmp 29)]), (some (20, true))⟩, 
               ⟨(some 31), (.un .not (.tmp 30)), (some (20, true))⟩, 
               ⟨(some 32), (.pick (.tmp 20) (.tmp 31) (.const (.bool false))), none⟩])
              (.cond (.tmp 32)
               .skip
               (.exit 2)))
             (.block 3
              (.ops [
               ⟨(some 33), (.mv (.tmp 7)), none⟩, 
               ⟨(some 34), (.bin .add (.tmp 33) (.const (.int .i64 1))), none⟩, 
               ⟨(some 7), (.mv (.tmp 34)), none⟩])))))
          (.seq (.seq (.ops [
             ⟨(some 35), (.mv (.tmp 7)), none⟩, 
             ⟨(some 36), (.mv (.tmp 2)), none⟩, 
             ⟨(some 37), (.bin .eql (.tmp 35) (.tmp 36)), none⟩])
            (.cond (.tmp 37)
             (.seq (.ops [
               ⟨(some 6), (.mv (.const (.bool true))), none⟩])
              .ret)
             .skip))
           (.seq (.seq (.ops [
              ⟨(some 38), (.mv (.tmp 2)), none⟩, 
              ⟨(some 39), (.mv (.tmp 1)), none⟩, 
              ⟨(some 40), (.bin .sub (.tmp 38) (.tmp 39)), none⟩, 
              ⟨(some 41), (.bin .lss (.tmp 40) (.const (.int .i64 50))), none⟩])
             (.cond (.tmp 41)
              (.seq (.ops [
                ⟨(some 6), (.mv (.const (.bool false))), none⟩])
               .ret)
              .skip))
            (.seq (.any [42, 43, 44, 45, 46, 47, 48, 49, 50, 51, 52, 53, 54, 55, 56, 57] [
              ⟨(some 42), (.mv (.tmp 0)), none⟩, 
              ⟨(some 43), (.mv (.tmp 7)), none⟩, 
              ⟨(some 44), (.mv (.tmp 0)), none⟩, 
              ⟨(some 45), (.mv (.tmp 7)), none⟩, 
              ⟨(some 46), (.bin .sub (.tmp 45) (.const (.int .i64 1))), none⟩, 
              ⟨(some 47), (.mv (.tmp 0)), none⟩, 
              ⟨(some 48), (.mv (.tmp 7)), none⟩, 
              ⟨(some 49), (.bin .sub (.tmp 48) (.const (.int .i64 1))), none⟩, 
              ⟨(some 50), (.idxSl 1 (.tmp 47) (.tmp 49)), none⟩, 
              ⟨(some 51), (.load1 (.tmp 50)), none⟩, 
              ⟨(some 52), (.mv (.tmp 0)), none⟩, 
              ⟨(some 53), (.mv (.tmp 7)), none⟩, 
              ⟨(some 54), (.idxSl 1 (.tmp 52) (.tmp 53)), none⟩, 
              ⟨(some 55), (.load1 (.tmp 54)), none⟩, 
              ⟨(some 56), (.idxSl 1 (.tmp 42) (.tmp 43)), none⟩, 
              ⟨none, (.store1 (.tmp 56) (.tmp 51)), none⟩, 
              ⟨(some 57), (.idxSl 1 (.tmp 44) (.tmp 46)), none⟩, 
              ⟨none, (.store1 (.tmp 57) (.tmp 55)), none⟩])
             (.seq (.seq (.ops [
                ⟨(some 58), (.mv (.tmp 7)), none⟩, 
                ⟨(some 59), (.mv (.tmp 1)), none⟩, 
                ⟨(some 60), (.bin .sub (.tmp 58) (.tmp 59)), none⟩, 
                ⟨(some 61), (.bin .geq (.tmp 60) (.const (.int .i64 2))), none⟩])
               (.cond (.tmp 61)
                (.seq (.ops [
                  ⟨(some 62), (.mv (.tmp 7)), none⟩, 
                  ⟨(some 63), (.bin .sub (.tmp 62) (.const (.int .i64 1))), none⟩, 
                  ⟨(some 9), (.mv (.tmp 63)), none⟩])
                 (.block 4
                  (.loop
                   (.seq (.seq (.ops [
                      ⟨(some 64), (.mv (.tmp 9)), none⟩, 
                      ⟨(some 65), (.bin .geq (.tmp 64) (.const (.int .i64 1))), none⟩])
                     (.cond (.tmp 65)
                      .skip
                      (.exit 4)))
                    (.seq (.block 5
                      (.seq (.seq (.any [68, 69, 70, 71, 72, 73, 74, 75, 76, 77, 78] [
                         ⟨(some 68), (.mv (.tmp 0)), none⟩, 
                         ⟨(some 69), (.mv (.tmp 9)), none⟩, 
                         ⟨(some 70), (.idxSl 1 (.tmp 68) (.tmp 69)), none⟩, 
                         ⟨(some 71), (.load1 (.tmp 70)), none⟩, 
                         ⟨(some 72), (.mv (.tmp 0)), none⟩, 
                         ⟨(some 73), (.mv (.tmp 9)), none⟩, 
                         ⟨(some 74), (.bin .sub (.tmp 73) (.const (.int .i64 1))), none⟩, 
                         ⟨(some 75), (.idxSl 1 (.tmp 72) (.tmp 74)), none⟩, 
                         ⟨(some 76), (.load1 (.tmp 75)), none⟩, 
                         ⟨(some 77), (.callF 56 [(.tmp 71), (.tmp 76)]), none⟩, 
                         ⟨(some 78), (.un .not (.tmp 77)), none⟩])
                        (.cond (.tmp 78)
                         (.exit 4)
                         .skip))
                       (.any [79, 80, 81, 82, 83, 84, 85, 86, 87, 88, 89, 90, 91, 92, 93, 94] [
                        ⟨(some 79), (.mv (.tmp 0)), none⟩, 
                        ⟨(some 80), (.mv (.tmp 9)), none⟩, 
                        ⟨(some 81), (.mv (.tmp 0)), none⟩, 
                        ⟨(some 82), (.mv (.tmp 9)), none⟩, 
                        ⟨(some 83), (.bin .sub (.tmp 82) (.const (.int .i64 1))), none⟩, 
                        ⟨(some 84), (.mv (.tmp 0)), none⟩, 
                        ⟨(some 85), (.mv (.tmp 9)), none⟩, 
                        ⟨(some 86), (.bin .sub (.tmp 85) (.const (.int .i64 1))), none⟩, 
                        ⟨(some 87), (.idxSl 1 (.tmp 84) (.tmp 86)), none⟩, 
                        ⟨(some 88), (.load1 (.tmp 87)), none⟩, 
                        ⟨(some 89), (.mv (.tmp 0)), none⟩, 
                        ⟨(some 90), (.mv (.tmp 9)), none⟩, 
                        ⟨(some 91), (.idxSl 1 (.tmp 89) (.tmp 90)), none⟩, 
                        ⟨(some 92), (.load1 (.tmp 91)), none⟩, 
                        ⟨(some 93), (.idxSl 1 (.tmp 79) (.tmp 80)), none⟩, 
                        ⟨none, (.store1 (.tmp 93) (.tmp 88)), none⟩, 
                        ⟨(some 94), (.idxSl 1 (.tmp 81) (.tmp 83)), none⟩, 
                        ⟨none, (.store1 (.tmp 94) (.tmp 92)), none⟩])))
                     (.ops [
                      ⟨(some 66), (.mv (.tmp 9)), none⟩, 
                      ⟨(some 67), (.bin .sub (.tmp 66) (.const (.int .i64 1))), none⟩, 
                      ⟨(some 9), (.mv (.tmp 67)), none⟩]))))))
                .skip))
              (.seq (.ops [
                ⟨(some 95), (.mv (.tmp 2)), none⟩, 
                ⟨(some 96), (.mv (.tmp 7)), none⟩, 
                ⟨(some 97), (.bin .sub (.tmp 95) (.tmp 96)), none⟩, 
                ⟨(some 98), (.bin .geq (.tmp 97) (.const (.int .i64 2))), none⟩])
               (.cond (.tmp 98)
                (.seq (.ops [
                  ⟨(some 99), (.mv (.tmp 7)), none⟩, 
                  ⟨(some 100), (.bin .add (.tmp 99) (.const (.int .i64 1))), none⟩, 
                  ⟨(some 10), (.mv (.tmp 100)), none⟩])
                 (.block 6
                  (.loop
                   (.seq (.seq (.ops [
                      ⟨(some 101), (.mv (.tmp 10)), none⟩, 
                      ⟨(some 102), (.mv (.tmp 2)), none⟩, 
                      ⟨(some 103), (.bin .lss (.tmp 101) (.tmp 102)), none⟩])
                     (.cond (.tmp 103)
                      .skip
                      (.exit 6)))
                    (.seq (.block 7
                      (.seq (.seq (.any [106, 107, 108, 109, 110, 111, 112, 113, 114, 115, 116] [
                         ⟨(some 106), (.mv (.tmp 0)), none⟩, 
                         ⟨(some 107), (.mv (.tmp 10)), none⟩, 
                         ⟨(some 108), (.idxSl 1 (.tmp 106) (.tmp 107)), none⟩, 
                         ⟨(some 109), (.load1 (.tmp 108)), none⟩, 
                         ⟨(some 110), (.mv (.tmp 0)), none⟩, 
                         ⟨(some 111), (.mv (.tmp 10)), none⟩, 
                         ⟨(some 112), (.bin .sub (.tmp 111) (.const (.int .i64 1))), none⟩, 
                         ⟨(some 113), (.idxSl 1 (.tmp 110) (.tmp 112)), none⟩, 
                         ⟨(some 114), (.load1 (.tmp 113)), none⟩, 
                         ⟨(some 115), (.callF 56 [(.tmp 109), (.tmp 114)]), none⟩, 
                         ⟨(some 116), (.un .not (.tmp 115)), none⟩])
                        (.cond (.tmp 116)
                         (.exit 6)
                         .skip))
                       (.any [117, 118, 119, 120, 121, 122, 123, 124, 125, 126, 127, 128, 129, 130, 131, 132] [
                        ⟨(some 117), (.mv (.tmp 0)), none⟩, 
                        ⟨(some 118), (.mv (.tmp 10)), none⟩, 
                        ⟨(some 119), (.mv (.tmp 0)), none⟩, 
                        ⟨(some 120), (.mv (.tmp 10)), none⟩, 
                        ⟨(some 121), (.bin .sub (.tmp 120) (.const (.int .i64 1))), none⟩, 
                        ⟨(some 122), (.mv (.tmp 0)), none⟩, 
                        ⟨(some 123), (.mv (.tmp 10)), none⟩, 
                        ⟨(some 124), (.bin .sub (.tmp 123) (.const (.int .i64 1))), none⟩, 
                        ⟨(some 125), (.idxSl 1 (.tmp 122) (.tmp 124)), none⟩, 
                        ⟨(some 126), (.load1 (.tmp 125)), none⟩, 
                        ⟨(some 127), (.mv (.tmp 0)), none⟩, 
                        ⟨(some 128), (.mv (.tmp 10)), none⟩, 
                        ⟨(some 129), (.idxSl 1 (.tmp 127) (.tmp 128)), none⟩, 
                        ⟨(some 130), (.load1 (.tmp 129)), none⟩, 
                        ⟨(some 131), (.idxSl 1 (.tmp 117) (.tmp 118)), none⟩, 
                        ⟨none, (.store1 (.tmp 131) (.tmp 126)), none⟩, 
                        ⟨(some 132), (.idxSl 1 (.tmp 119) (.tmp 121)), none⟩, 
                        ⟨none, (.store1 (.tmp 132) (.tmp 130)), none⟩])))
                     (.ops [
                      ⟨(some 104), (.mv (.tmp 10)), none⟩, 
                      ⟨(some 105), (.bin .add (.tmp 104) (.const (.int .i64 1))), none⟩, 
                      ⟨(some 10), (.mv (.tmp 105)), none⟩]))))))
                .skip))))))))
        (.ops [
         ⟨(some 15), (.mv (.tmp 8)), none⟩, 
         ⟨(some 16), (.bin .add (.tmp 15) (.const (.int .i64 1))), none⟩, 
         ⟨(some 8), (.mv (.tmp 16)), none⟩]))))))
   (.seq (.ops [
     ⟨(some 6), (.mv (.const (.bool false))), none⟩])
    .ret))))
theorem c55 {args : Array Value} {h : Heap} {R : Ending → Heap → Prop} (ha : args.size ≤ 133) (hh : aexec Try.prog ac55 (abody [(.slot 6)] R) ⟨initFr args.toList, []⟩ h) : HCalls Try.prog 55 args h R :=
  hcalls_of Try.func55 rfl rfl (by kernel_rfl) (by kernel_rfl) ha hh
/-- 56: cmp.Less[int] -/
def ac56 : ACode :=
 (.seq (.ops [
  ⟨(some 4), (.mv (.const (.bool false))), none⟩])
 (.seq (.ops [
   ⟨(some 5), (.mv (.tmp 0)), none⟩, 
   ⟨(some 6), (.callF 66 [(.tmp 5)]), none⟩, 
   ⟨(some 7), (.mv (.tmp 6)), none⟩, 
   ⟨(some 8), (.mv (.tmp 1)), (some (7, true))⟩, 
   ⟨(some 9), (.callF 66 [(.tmp 8)]), (some (7, true))⟩, 
   ⟨(some 10), (.un .not (.tmp 9)), (some (7, true))⟩, 
   ⟨(some 11), (.pick (.tmp 7) (.tmp 10) (.const (.bool false))), none⟩, 
   ⟨(some 12), (.mv (.tmp 11)), none⟩, 
   ⟨(some 13), (.mv (.tmp 0)), (some (12, false))⟩, 
   ⟨(some 14), (.mv (.tmp 1)), (some (12, false))⟩, 
   ⟨(some 15), (.bin .lss (.tmp 13) (.tmp 14)), (some (12, false))⟩, 
   ⟨(some 16), (.pick (.tmp 12) (.const (.bool true)) (.tmp 15)), none⟩, 
   ⟨(some 4), (.mv (.tmp 16)), none⟩])
  .ret))
theorem c56 {args : Array Value} {h : Heap} {R : Ending → Heap → Prop} (ha : args.size ≤ 17) (hh : aexec Try.prog ac56 (abody [(.slot 4)] R) ⟨initFr args.toList, []⟩ h) : HCalls Try.prog 56 args h R :=
  hcalls_of Try.func56 rfl rfl (by kernel_rfl) (by kernel_rfl) ha hh
/-- 57: slices.partitionEqualOrdered[int] -/
def ac57 : ACode :=
 (.seq (.ops [
  ⟨(some 8), (.mv (.const (.int .i64 0))), none⟩])
 (.seq (.any [11, 12, 13, 14, 15, 16, 17, 18, 19, 20, 21, 22, 23, 24] [
   ⟨(some 11), (.mv (.tmp 0)), none⟩, 
   ⟨(some 12), (.mv (.tmp 1)), none⟩, 
   ⟨(some 13), (.mv (.tmp 0)), none⟩, 
   ⟨(some 14), (.mv (.tmp 3)), none⟩, 
   ⟨(some 15), (.mv (.tmp 0)), none⟩, 
   ⟨(some 16), (.mv (.tmp 3)), none⟩, 
   ⟨(some 17), (.idxSl 1 (.tmp 15) (.tmp 16)), none⟩, 
   ⟨(some 18), (.load1 (.tmp 17)), none⟩, 
   ⟨(some 19), (.mv (.tmp 0)), none⟩, 
   ⟨(some 20), (.mv (.tmp 1)), none⟩, 
   ⟨(some 21), (.idxSl 1 (.tmp 19) (.tmp 20)), none⟩, 
   ⟨(some 22), (.load1 (.tmp 21)), none⟩, 
   ⟨(some 23), (.idxSl 1 (.tmp 11) (.tmp 12)), none⟩, 
   ⟨none, (.store1 (.tmp 23) (.tmp 18)), none⟩, 
   ⟨(some 24), (.idxSl 1 (.tmp 13) (.tmp 14)), none⟩, 
   ⟨none, (.store1 (.tmp 24) (.tmp 22)), none⟩])
  (.seq (.ops [
    ⟨(some 25), (.mv (.tmp 1)), none⟩, 
    ⟨(some 26), (.bin .add (.tmp 25) (.const (.int .i64 1))), none⟩, 
    ⟨(some 27), (.mv (.tmp 2)), none⟩, 
    ⟨(some 28), (.bin .sub (.tmp 27) (.const (.int .i64 1))), none⟩, 
    ⟨(some 9), (.mv (.tmp 26)), none⟩, 
    ⟨(some 10), (.mv (.tmp 28)), none⟩])
   (.seq (.block 0
     (.loop
      (.block 1
       (.seq (.block 2
         (.loop
          (.seq (.seq (.any [29, 30, 31, 32, 33, 34, 35, 36, 37, 38, 39, 40, 41, 42, 43] [
             ⟨(some 29), (.mv (.tmp 9)), none⟩, 
             ⟨(some 30), (.mv (.tmp 10)), none⟩, 
             ⟨(some 31), (.bin .leq (.tmp 29) (.tmp 30)), none⟩, 
             ⟨(some 32), (.mv (.tmp 31)), none⟩, 
             ⟨(some 33), (.mv (.tmp 0)), (some (32, true))⟩, 
             ⟨(some 34), (.mv (.tmp 1)), (some (32, true))⟩, 
             ⟨(some 35), (.idxSl 1 (.tmp 33) (.tmp 34)), (some (32, true))⟩, 
             ⟨(some 36), (.load1 (.tmp 35)), (some (32, true))⟩, 
             ⟨(some 37), (.mv (.tmp 0)), (some (32, true))⟩, 
             ⟨(some 38), (.mv (.tmp 9)), (some (32, true))⟩, 
             ⟨(some 39), (.idxSl 1 (.tmp 37) (.tmp 38)), (some (32, true))⟩, 
             ⟨(some 40), (.load1 (.tmp 39)), (some (32, true))⟩, 
             ⟨(some 41), (.callF 56 [(.tmp 36), (.tmp 40)]), (some (32, true))⟩, 
             ⟨(some 42), (.un .not (.tmp 41)), (some (32, true))⟩, 
             ⟨(some 43), (.pick (.tmp 32) (.tmp 42) (.const (.bool false))), none⟩])
            (.cond (.tmp 43)
             .skip
             (.exit 2)))
           (.block 3
            (.ops [
             ⟨(some 44), (.mv (.tmp 9)), none⟩, 
             ⟨(some 45), (.bin .add (.tmp 44) (.const (.int .i64 1))), none⟩, 
             ⟨(some 9), (.mv (.tmp 45)), none⟩])))))
        (.seq (.block 4
          (.loop
           (.seq (.seq (.any [46, 47, 48, 49, 50, 51, 52, 53, 54, 55, 56, 57, 58, 59] [
              ⟨(some 46), (.mv (.tmp 9)), none⟩, 
              ⟨(some 47), (.mv (.tmp 10)), none⟩, 
              ⟨(some 48), (.bin .leq (.tmp 46) (.tmp 47)), none⟩, 
              ⟨(some 49), (.mv (.tmp 48)), none⟩, 
              ⟨(some 50), (.mv (.tmp 0)), (some (49, true))⟩, 
              ⟨(some 51), (.mv (.tmp 1)), (some (49, true))⟩, 
              ⟨(some 52), (.idxSl 1 (.tmp 50) (.tmp 51)), (some (49, true))⟩, 
              ⟨(some 53), (.load1 (.tmp 52)), (some (49, true))⟩, 
              ⟨(some 54), (.mv (.tmp 0)), (some (49, true))⟩, 
              ⟨(some 55), (.mv (.tmp 10)), (some (49, true))⟩, 
              ⟨(some 56), (.idxSl 1 (.tmp 54) (.tmp 55)), (some (49, true))⟩, 
              ⟨(some 57), (.load1 (.tmp 56)), (some (49, true))⟩, 
              ⟨(some 58), (.callF 56 [(.tmp 53), (.tmp 57)]), (some (49, true))⟩, 
              ⟨(some 59), (.pick (.tmp 49) (.tmp 58) (.const (.bool false))), none⟩])
             (.cond (.tmp 59)
              .skip
              (.exit 4)))
            (.block 5
             (.ops [
              ⟨(some 60), (.mv (.tmp 10)), none⟩, 
              ⟨(some 61), (.bin .sub (.tmp 60) (.const (.int .i64 1))), none⟩, 
              ⟨(some 10), (.mv (.tmp 61)), none⟩])))))
         (.seq (.seq (.ops [
            ⟨(some 62), (.mv (.tmp 9)), none⟩, 
            ⟨(some 63), (.mv (.tmp 10)), none⟩, 
            ⟨(some 64), (.bin .gtr (.tmp 62) (.tmp 63)), none⟩])
           (.cond (.tmp 64)
            (.exit 0)
            .skip))
          (.seq (.any [65, 66, 67, 68, 69, 70, 71, 72, 73, 74, 75, 76, 77, 78] [
            ⟨(some 65), (.mv (.tmp 0)), none⟩, 
            ⟨(some 66), (.mv (.tmp 9)), none⟩, 
            ⟨(some 67), (.mv (.tmp 0)), none⟩, 
            ⟨(some 68), (.mv (.tmp 10)), none⟩, 
            ⟨(some 69), (.mv (.tmp 0)), none⟩, 
            ⟨(some 70), (.mv (.tmp 10)), none⟩, 
            ⟨(some 71), (.idxSl 1 (.tmp 69) (.tmp 70)), none⟩, 
            ⟨(some 72), (.load1 (.tmp 71)), none⟩, 
            ⟨(some 73), (.mv (.tmp 0)), none⟩, 
            ⟨(some 74), (.mv (.tmp 9)), none⟩, 
            ⟨(some 75), (.idxSl 1 (.tmp 73) (.tmp 74)), none⟩, 
            ⟨(some 76), (.load1 (.tmp 75)), none⟩, 
            ⟨(some 77), (.idxSl 1 (.tmp 65) (.tmp 66)), none⟩, 
            ⟨none, (.store1 (.tmp 77) (.tmp 72)), none⟩, 
            ⟨(some 78), (.idxSl 1 (.tmp 67) (.tmp 68)), none⟩, 
            ⟨none, (.store1 (.tmp 78) (.tmp 76)), none⟩])
           (.seq (.ops [
             ⟨(some 79), (.mv (.tmp 9)), none⟩, 
             ⟨(some 80), (.bin .add (.tmp 79) (.const (.int .i64 1))), none⟩, 
             ⟨(some 9), (.mv (.tmp 80)), none⟩])
            (.ops [
             ⟨(some 81), (.mv (.tmp 10)), none⟩, 
             ⟨(some 82), (.bin .sub (.tmp 81) (.const (.int .i64 1))), none⟩, 
             ⟨(some 10), (.mv (.tmp 82)), none⟩])))))))))
    (.seq (.ops [
      ⟨(some 83), (.mv (.tmp 9)), none⟩, 
      ⟨(some 8), (.mv (.tmp 83)), none⟩])
     .ret)))))
theorem c57 {args : Array Value} {h : Heap} {R : Ending → Heap → Prop} (ha : args.size ≤ 84) (hh : aexec Try.prog ac57 (abody [(.slot 8)] R) ⟨initFr args.toList, []⟩ h) : HCalls Try.prog 57 args h R :=
  hcalls_of Try.func57 rfl rfl (by kernel_rfl) (by kernel_rfl) ha hh
/-- 58: slices.partitionOrdered[int] -/
def ac58 : ACode :=
 (.seq (.ops [
  ⟨(some 8), (.mv (.const (.int .i64 0))), none⟩, 
  ⟨(some 9), (.mv (.const (.bool false))), none⟩])
 (.seq (.any [12, 13, 14, 15, 16, 17, 18, 19, 20, 21, 22, 23, 24, 25] [
   ⟨(some 12), (.mv (.tmp 0)), none⟩, 
   ⟨(some 13), (.mv (.tmp 1)), none⟩, 
   ⟨(some 14), (.mv (.tmp 0)), none⟩, 
   ⟨(some 15), (.mv (.tmp 3)), none⟩, 
   ⟨(some 16), (.mv (.tmp 0)), none⟩, 
   ⟨(some 17), (.mv (.tmp 3)), none⟩, 
   ⟨(some 18), (.idxSl 1 (.tmp 16) (.tmp 17)), none⟩, 
   ⟨(some 19), (.load1 (.tmp 18)), none⟩, 
   ⟨(some 20), (.mv (.tmp 0)), none⟩, 
   ⟨(some 21), (.mv (.tmp 1)), none⟩, 
   ⟨(some 22), (.idxSl 1 (.tmp 20) (.tmp 21)), none⟩, 
   ⟨(some 23), (.load1 (.tmp 22)), none⟩, 
   ⟨(some 24), (.idxSl 1 (.tmp 12) (.tmp 13)), none⟩, 
   ⟨none, (.store1 (.tmp 24) (.tmp 19)), none⟩, 
   ⟨(some 25), (.idxSl 1 (.tmp 14) (.tmp 15)), none⟩, 
   ⟨none, (.store1 (.tmp 25) (.tmp 23)), none⟩])
  (.seq (.ops [
    ⟨(some 26), (.mv (.tmp 1)), none⟩, 
    ⟨(some 27), (.bin .add (.tmp 26) (.const (.int .i64 1))), none⟩, 
    ⟨(some 28), (.mv (.tmp 2)), none⟩, 
    ⟨(some 29), (.bin .sub (.tmp 28) (.const (.int .i64 1))), none⟩, 
    ⟨(some 10), (.mv (.tmp 27)), none⟩, 
    ⟨(some 11), (.mv (.tmp 29)), none⟩])
   (.seq (.block 0
     (.loop
      (.seq (.seq (.any [30, 31, 32, 33, 34, 35, 36, 37, 38, 39, 40, 41, 42, 43] [
         ⟨(some 30), (.mv (.tmp 10)), none⟩, 
         ⟨(some 31), (.mv (.tmp 11)), none⟩, 
         ⟨(some 32), (.bin .leq (.tmp 30) (.tmp 31)), none⟩, 
         ⟨(some 33), (.mv (.tmp 32)), none⟩, 
         ⟨(some 34), (.mv (.tmp 0)), (some (33, true))⟩, 
         ⟨(some 35), (.mv (.tmp 10)), (some (33, true))⟩, 
         ⟨(some 36), (.idxSl 1 (.tmp 34) (.tmp 35)), (some (33, true))⟩, 
         ⟨(some 37), (.load1 (.tmp 36)), (some (33, true))⟩, 
         ⟨(some 38), (.mv (.tmp 0)), (some (33, true))⟩, 
         ⟨(some 39), (.mv (.tmp 1)), (some (33, true))⟩, 
         ⟨(some 40), (.idxSl 1 (.tmp 38) (.tmp 39)), (some (33, true))⟩, 
         ⟨(some 41), (.load1 (.tmp 40)), (some (33, true))⟩, 
         ⟨(some 42), (.callF 56 [(.tmp 37), (.tmp 41)]), (some (33, true))⟩, 
         ⟨(some 43), (.pick (.tmp 33) (.tmp 42) (.const (.bool false))), none⟩])
        (.cond (.tmp 43)
         .skip
         (.exit 0)))
       (.block 1
        (.ops [
         ⟨(some 44), (.mv (.tmp 10)), none⟩, 
         ⟨(some 45), (.bin .add (.tmp 44) (.const (.int .i64 1))), none⟩, 
         ⟨(some 10), (.mv (.tmp 45)), none⟩])))))
    (.seq (.block 2
      (.loop
       (.seq (.seq (.any [46, 47, 48, 49, 50, 51, 52, 53, 54, 55, 56, 57, 58, 59, 60] [
          ⟨(some 46), (.mv (.tmp 10)), none⟩, 
          ⟨(some 47), (.mv (.tmp 11)), none⟩, 
          ⟨(some 48), (.bin .leq (.tmp 46) (.tmp 47)), none⟩, 
          ⟨(some 49), (.mv (.tmp 48)), none⟩, 
          ⟨(some 50), (.mv (.tmp 0)), (some (49, true))⟩, 
          ⟨(some 51), (.mv (.tmp 11)), (some (49, true))⟩, 
          ⟨(some 52), (.idxSl 1 (.tmp 50) (.tmp 51)), (some (49, true))⟩, 
          ⟨(some 53), (.load1 (.tmp 52)), (some (49, true))⟩, 
          ⟨(some 54), (.mv (.tmp 0)), (some (49, true))⟩, 
          ⟨(some 55), (.mv (.tmp 1)), (some (49, true))⟩, 
          ⟨(some 56), (.idxSl 1 (.tmp 54) (.tmp 55)), (some (49, true))⟩, 
          ⟨(some 57), (.load1 (.tmp 56)), (some (49, true))⟩, 
          ⟨(some 58), (.callF 56 [(.tmp 53), (.tmp 57)]), (some (49, true))⟩, 
          ⟨(some 59), (.un .not (.tmp 58)), (some (49, true))⟩, 
          ⟨(some 60), (.pick (.tmp 49) (.tmp 59) (.const (.bool false))), none⟩])
         (.cond (.tmp 60)
          .skip
          (.exit 2)))
        (.block 3
         (.ops [
          ⟨(some 61), (.mv (.tmp 11)), none⟩, 
          ⟨(some 62), (.bin .sub (.tmp 61) (.const (.int .i64 1))), none⟩, 
          ⟨(some 11), (.mv (.tmp 62)), none⟩])))))
     (.seq (.seq (.ops [
        ⟨(some 63), (.mv (.tmp 10)), none⟩, 
        ⟨(some 64), (.mv (.tmp 11)), none⟩, 
        ⟨(some 65), (.bin .gtr (.tmp 63) (.tmp 64)), none⟩])
       (.cond (.tmp 65)
        (.seq (.any [66, 67, 68, 69, 70, 71, 72, 73, 74, 75, 76, 77, 78, 79] [
          ⟨(some 66), (.mv (.tmp 0)), none⟩, 
          ⟨(some 67), (.mv (.tmp 11)), none⟩, 
          ⟨(some 68), (.mv (.tmp 0)), none⟩, 
          ⟨(some 69), (.mv (.tmp 1)), none⟩, 
          ⟨(some 70), (.mv (.tmp 0)), none⟩, 
          ⟨(some 71), (.mv (.tmp 1)), none⟩, 
          ⟨(some 72), (.idxSl 1 (.tmp 70) (.tmp 71)), none⟩, 
          ⟨(some 73), (.load1 (.tmp 72)), none⟩, 
          ⟨(some 74), (.mv (.tmp 0)), none⟩, 
          ⟨(some 75), (.mv (.tmp 11)), none⟩, 
          ⟨(some 76), (.idxSl 1 (.tmp 74) (.tmp 75)), none⟩, 
          ⟨(some 77), (.load1 (.tmp 76)), none⟩, 
          ⟨(some 78), (.idxSl 1 (.tmp 66) (.tmp 67)), none⟩, 
          ⟨none, (.store1 (.tmp 78) (.tmp 73)), none⟩, 
          ⟨(some 79), (.idxSl 1 (.tmp 68) (.tmp 69)), none⟩, 
          ⟨none, (.store1 (.tmp 79) (.tmp 77)), none⟩])
         (.seq (.ops [
           ⟨(some 80), (.mv (.tmp 11)), none⟩, 
           ⟨(some 8), (.mv (.tmp 80)), none⟩, 
           ⟨(some 9), (.mv (.const (.bool true))), none⟩])
          .ret))
        .skip))
      (.seq (.any [81, 82, 83, 84, 85, 86, 87, 88, 89, 90, 91, 92, 93, 94] [
        ⟨(some 81), (.mv (.tmp 0)), none⟩, 
        ⟨(some 82), (.mv (.tmp 10)), none⟩, 
        ⟨(some 83), (.mv (.tmp 0)), none⟩, 
        ⟨(some 84), (.mv (.tmp 11)), none⟩, 
        ⟨(some 85), (.mv (.tmp 0)), none⟩, 
        ⟨(some 86), (.mv (.tmp 11)), none⟩, 
        ⟨(some 87), (.idxSl 1 (.tmp 85) (.tmp 86)), none⟩, 
        ⟨(some 88), (.load1 (.tmp 87)), none⟩, 
        ⟨(some 89), (.mv (.tmp 0)), none⟩, 
        ⟨(some 90), (.mv (.tmp 10)), none⟩, 
        ⟨(some 91), (.idxSl 1 (.tmp 89) (.tmp 90)), none⟩, 
        ⟨(some 92), (.load1 (.tmp 91)), none⟩, 
        ⟨(some 93), (.idxSl 1 (.tmp 81) (.tmp 82)), none⟩, 
        ⟨none, (.store1 (.tmp 93) (.tmp 88)), none⟩, 
        ⟨(some 94), (.idxSl 1 (.tmp 83) (.tmp 84)), none⟩, 
        ⟨none, (.store1 (.tmp 94) (.tmp 92)), none⟩])
       (.seq (.ops [
         ⟨(some 95), (.mv (.tmp 10)), none⟩, 
         ⟨(some 96), (.bin .add (.tmp 95) (.const (.int .i64 1))), none⟩, 
         ⟨(some 10), (.mv (.tmp 96)), none⟩])
        (.seq (.ops [
          ⟨(some 97), (.mv (.tmp 11)), none⟩, 
          ⟨(some 98), (.bin .sub (.tmp 97) (.const (.int .i64 1))), none⟩, 
          ⟨(some 11), (.mv (.tmp 98)), none⟩])
         (.seq (.block 4
           (.loop
            (.block 5
             (.seq (.block 6
               (.loop
                (.seq (.seq (.any [99, 100, 101, 102, 103, 104, 105, 106, 107, 108, 109, 110, 111, 112] [
                   ⟨(some 99), (.mv (.tmp 10)), none⟩, 
                   ⟨(some 100), (.mv (.tmp 11)), none⟩, 
                   ⟨(some 101), (.bin .leq (.tmp 99) (.tmp 100)), none⟩, 
                   ⟨(some 102), (.mv (.tmp 101)), none⟩, 
                   ⟨(some 103), (.mv (.tmp 0)), (some (102, true))⟩, 
                   ⟨(some 104), (.mv (.tmp 10)), (some (102, true))⟩, 
                   ⟨(some 105), (.idxSl 1 (.tmp 103) (.tmp 104)), (some (102, true))⟩, 
                   ⟨(some 106), (.load1 (.tmp 105)), (some (102, true))⟩, 
                   ⟨(some 107), (.mv (.tmp 0)), (some (102, true))⟩, 
                   ⟨(some 108), (.mv (.tmp 1)), (some (102, true))⟩, 
                   ⟨(some 109), (.idxSl 1 (.tmp 107) (.tmp 108)), (some (102, true))⟩, 
                   ⟨(some 110), (.load1 (.tmp 109)), (some (102, true))⟩, 
                   ⟨(some 111), (.callF 56 [(.tmp 106), (.tmp 110)]), (some (102, true))⟩, 
                   ⟨(some 112), (.pick (.tmp 102) (.tmp 111) (.const (.bool false))), none⟩])
                  (.cond (.tmp 112)
                   .skip
                   (.exit 6)))
                 (.block 7
                  (.ops [
                   ⟨(some 113), (.mv (.tmp 10)), none⟩, 
                   ⟨(some 114), (.bin .add (.tmp 113) (.const (.int .i64 1))), none⟩, 
                   ⟨(some 10), (.mv (.tmp 114)), none⟩])))))
              (.seq (.block 8
                (.loop
                 (.seq (.seq (.any [115, 116, 117, 118, 119, 120, 121, 122, 123, 124, 125, 126, 127, 128, 129] [
                    ⟨(some 115), (.mv (.tmp 10)), none⟩, 
                    ⟨(some 116), (.mv (.tmp 11)), none⟩, 
                    ⟨(some 117), (.bin .leq (.tmp 115) (.tmp 116)), none⟩, 
                    ⟨(some 118), (.mv (.tmp 117)), none⟩, 
                    ⟨(some 119), (.mv (.tmp 0)), (some (118, true))⟩, 
                    ⟨(some 120), (.mv (.tmp 11)), (some (118, true))⟩, 
                    ⟨(some 121), (.idxSl 1 (.tmp 119) (.tmp 120)), (some (118, true))⟩, 
                    ⟨(some 122), (.load1 (.tmp 121)), (some (118, true))⟩, 
                    ⟨(some 123), (.mv (.tmp 0)), (some (118, true))⟩, 
                    ⟨(some 124), (.mv (.tmp 1)), (some (118, true))⟩, 
                    ⟨(some 125), (.idxSl 1 (.tmp 123) (.tmp 124)), (some (118, true))⟩, 
                    ⟨(some 126), (.load1 (.tmp 125)), (some (118, true))⟩, 
                    ⟨(some 127), (.callF 56 [(.tmp 122), (.tmp 126)]), (some (118, true))⟩, 
                    ⟨(some 128), (.un .not (.tmp 127)), (some (118, true))⟩, 
                    ⟨(some 129), (.pick (.tmp 118) (.tmp 128) (.const (.bool false))), none⟩])
                   (.cond (.tmp 129)
                    .skip
                    (.exit 8)))
                  (.block 9
                   (.ops [
                    ⟨(some 130), (.mv (.tmp 11)), none⟩, 
                    ⟨(some 131), (.bin .sub (.tmp 130) (.const (.int .i64 1))), none⟩, 
                    ⟨(some 11), (.mv (.tmp 131)), none⟩])))))
               (.seq (.seq (.ops [
                  ⟨(some 132), (.mv (.tmp 10)), none⟩, 
                  ⟨(some 133), (.mv (.tmp 11)), none⟩, 
                  ⟨(some 134), (.bin .gtr (.tmp 132) (.tmp 133)), none⟩])
                 (.cond (.tmp 134)
                  (.exit 4)
                  .skip))
                (.seq (.any [135, 136, 137, 138, 139, 140, 141, 142, 143, 144, 145, 146, 147, 148] [
                  ⟨(some 135), (.mv (.tmp 0)), none⟩, 
                  ⟨(some 136), (.mv (.tmp 10)), none⟩, 
                  ⟨(some 137), (.mv (.tmp 0)), none⟩, 
                  ⟨(some 138), (.mv (.tmp 11)), none⟩, 
                  ⟨(some 139), (.mv (.tmp 0)), none⟩, 
                  ⟨(some 140), (.mv (.tmp 11)), none⟩, 
                  ⟨(some 141), (.idxSl 1 (.tmp 139) (.tmp 140)), none⟩, 
                  ⟨(some 142), (.load1 (.tmp 141)), none⟩, 
                  ⟨(some 143), (.mv (.tmp 0)), none⟩, 
                  ⟨(some 144), (.mv (.tmp 10)), none⟩, 
                  ⟨(some 145), (.idxSl 1 (.tmp 143) (.tmp 144)), none⟩, 
                  ⟨(some 146), (.load1 (.tmp 145)), none⟩, 
                  ⟨(some 147), (.idxSl 1 (.tmp 135) (.tmp 136)), none⟩, 
                  ⟨none, (.store1 (.tmp 147) (.tmp 142)), none⟩, 
                  ⟨(some 148), (.idxSl 1 (.tmp 137) (.tmp 138)), none⟩, 
                  ⟨none, (.store1 (.tmp 148) (.tmp 146)), none⟩])
                 (.seq (.ops [
                   ⟨(some 149), (.mv (.tmp 10)), none⟩, 
                   ⟨(some 150), (.bin .add (.tmp 149) (.const (.int .i64 1))), none⟩, 
                   ⟨(some 10), (.mv (.tmp 150)), none⟩])
                  (.ops [
                   ⟨(some 151), (.mv (.tmp 11)), none⟩, 
                   ⟨(some 152), (.bin .sub (.tmp 151) (.const (.int .i64 1))), none⟩, 
                   ⟨(some 11), (.mv (.tmp 152)), none⟩])))))))))
          (.seq (.any [153, 154, 155, 156, 157, 158, 159, 160, 161, 162, 163, 164, 165, 166] [
            ⟨(some 153), (.mv (.tmp 0)), none⟩, 
            ⟨(some 154), (.mv (.tmp 11)), none⟩, 
            ⟨(some 155), (.mv (.tmp 0)), none⟩, 
            ⟨(some 156), (.mv (.tmp 1)), none⟩, 
            ⟨(some 157), (.mv (.tmp 0)), none⟩, 
            ⟨(some 158), (.mv (.tmp 1)), none⟩, 
            ⟨(some 159), (.idxSl 1 (.tmp 157) (.tmp 158)), none⟩, 
            ⟨(some 160), (.load1 (.tmp 159)), none⟩, 
            ⟨(some 161), (.mv (.tmp 0)), none⟩, 
            ⟨(some 162), (.mv (.tmp 11)), none⟩, 
            ⟨(some 163), (.idxSl 1 (.tmp 161) (.tmp 162)), none⟩, 
            ⟨(some 164), (.load1 (.tmp 163)), none⟩, 
            ⟨(some 165), (.idxSl 1 (.tmp 153) (.tmp 154)), none⟩, 
            ⟨none, (.store1 (.tmp 165) (.tmp 160)), none⟩, 
            ⟨(some 166), (.idxSl 1 (.tmp 155) (.tmp 156)), none⟩, 
            ⟨none, (.store1 (.tmp 166) (.tmp 164)), none⟩])
           (.seq (.ops [
             ⟨(some 167), (.mv (.tmp 11)), none⟩, 
             ⟨(some 8), (.mv (.tmp 167)), none⟩, 
             ⟨(some 9), (.mv (.const (.bool false))), none⟩])
            .ret))))))))))))
theorem c58 {args : Array Value} {h : Heap} {R : Ending → Heap → Prop} (ha : args.size ≤ 168) (hh : aexec Try.prog ac58 (abody [(.slot 8), (.slot 9)] R) ⟨initFr args.toList, []⟩ h) : HCalls Try.prog 58 args h R :=
  hcalls_of Try.func58 rfl rfl (by kernel_rfl) (by kernel_rfl) ha hh
/-- 59: math/bits.Len32 -/
def ac59 : ACode :=
 (.seq (.ops [
  ⟨(some 2), (.mv (.const (.int .i64 0))), none⟩])
 (.seq (.seq (.ops [
    ⟨(some 3), (.mv (.tmp 0)), none⟩, 
    ⟨(some 4), (.bin .geq (.tmp 3) (.const (.int .u32 65536))), none⟩])
   (.cond (.tmp 4)
    (.seq (.ops [
      ⟨(some 5), (.mv (.tmp 0)), none⟩, 
      ⟨(some 6), (.bin .shr (.tmp 5) (.const (.int .u64 16))), none⟩, 
      ⟨(some 0), (.mv (.tmp 6)), none⟩])
     (.ops [
      ⟨(some 2), (.mv (.const (.int .i64 16))), none⟩]))
    .skip))
  (.seq (.seq (.ops [
     ⟨(some 7), (.mv (.tmp 0)), none⟩, 
     ⟨(some 8), (.bin .geq (.tmp 7) (.const (.int .u32 256))), none⟩])
    (.cond (.tmp 8)
     (.seq (.ops [
       ⟨(some 9), (.mv (.tmp 0)), none⟩, 
       ⟨(some 10), (.bin .shr (.tmp 9) (.const (.int .u64 8))), none⟩, 
       ⟨(some 0), (.mv (.tmp 10)), none⟩])
      (.ops [
       ⟨(some 11), (.mv (.tmp 2)), none⟩, 
       ⟨(some 12), (.bin .add (.tmp 11) (.const (.int .i64 8))), none⟩, 
       ⟨(some 2), (.mv (.tmp 12)), none⟩]))
     .skip))
   (.seq (.ops [
     ⟨(some 13), (.mv (.tmp 2)), none⟩, 
     ⟨(some 14), (.mv (.tmp 0)), none⟩, 
     ⟨(some 15), (.convInt .u8 (.tmp 14)), none⟩, 
     ⟨(some 16), (.idxStr (.const (.string ⟨#[0, 1, 2, 2, 3, 3, 3, 3, 4, 4, 4, 4, 4, 4, 4, 4, 5, 5, 5, 5, 5, 5, 5, 5, 5, 5, 5, 5, 5, 5, 5, 5, 6, 6, 6, 6, 6, 6, 6, 6, 6, 6, 6, 6, 6, 6, 6, 6, 6, 6, 6, 6, 6, 6, 6, 6, 6, 6, 6, 6, 6, 6, 6, 6, 7, 7, 7, 7, 7, 7, 7, 7, 7, 7, 7, 7, 7, 7, 7, 7, 7, 7, 7, 7, 7, 7, 7, 7, 7, 7, 7, 7, 7, 7, 7, 7, 7, 7, 7, 7, 7, 7, 7, 7, 7, 7, 7, 7, 7, 7, 7, 7, 7, 7, 7, 7, 7, 7, 7, 7, 7, 7, 7, 7, 7, 7, 7, 7, 8, 8, 8, 8, 8, 8, 8, 8, 8, 8, 8, 8, 8, 8, 8, 8, 8, 8, 8, 8, 8, 8, 8, 8, 8, 8, 8, 8, 8, 8, 8, 8, 8, 8, 8, 8, 8, 8, 8, 8, 8, 8, 8, 8, 8, 8, 8, 8, 8, 8, 8, 8, 8, 8, 8, 8, 8, 8, 8, 8, 8, 8, 8, 8, 8, 8, 8, 8, 8, 8, 8, 8, 8, 8, 8, 8, 8, 8, 8, 8, 8, 8, 8, 8, 8, 8, 8, 8, 8, 8, 8, 8, 8, 8, 8, 8, 8, 8, 8, 8, 8, 8, 8, 8, 8, 8, 8, 8, 8, 8, 8, 8, 8, 8, 8, 8, 8, 8, 8, 8, 8, 8, 8, 8, 8, 8, 8, 8]⟩)) (.tmp 15)), none⟩, 
     ⟨(some 17), (.convInt .i64 (.tmp 16)), none⟩, 
     ⟨(some 18), (.bin .add (.tmp 13) (.tmp 17)), none⟩, 
     ⟨(some 2), (.mv (.tmp 18)), none⟩])
    .ret))))
theorem c59 {args : Array Value} {h : Heap} {R : Ending → Heap → Prop} (ha : args.size ≤ 19) (hh : aexec Try.prog ac59 (abody [(.slot 2)] R) ⟨initFr args.toList, []⟩ h) : HCalls Try.prog 59 args h R :=
  hcalls_of Try.func59 rfl rfl (by kernel_rfl) (by kernel_rfl) ha hh
/-- 60: math/bits.Len64 -/
def ac60 : ACode :=
 (.seq (.ops [
  ⟨(some 2), (.mv (.const (.int .i64 0))), none⟩])
 (.seq (.seq (.ops [
    ⟨(some 3), (.mv (.tmp 0)), none⟩, 
    ⟨(some 4), (.bin .geq (.tmp 3) (.const (.int .u64 4294967296))), none⟩])
   (.cond (.tmp 4)
    (.seq (.ops [
      ⟨(some 5), (.mv (.tmp 0)), none⟩, 
      ⟨(some 6), (.bin .shr (.tmp 5) (.const (.int .u64 32))), none⟩, 
      ⟨(some 0), (.mv (.tmp 6)), none⟩])
     (.ops [
      ⟨(some 2), (.mv (.const (.int .i64 32))), none⟩]))
    .skip))
  (.seq (.seq (.ops [
     ⟨(some 7), (.mv (.tmp 0)), none⟩, 
     ⟨(some 8), (.bin .geq (.tmp 7) (.const (.int .u64 65536))), none⟩])
    (.cond (.tmp 8)
     (.seq (.ops [
       ⟨(some 9), (.mv (.tmp 0)), none⟩, 
       ⟨(some 10), (.bin .shr (.tmp 9) (.const (.int .u64 16))), none⟩, 
       ⟨(some 0), (.mv (.tmp 10)), none⟩])
      (.ops [
       ⟨(some 11), (.mv (.tmp 2)), none⟩, 
       ⟨(some 12), (.bin .add (.tmp 11) (.const (.int .i64 16))), none⟩, 
       ⟨(some 2), (.mv (.tmp 12)), none⟩]))
     .skip))
   (.seq (.seq (.ops [
      ⟨(some 13), (.mv (.tmp 0)), none⟩, 
      ⟨(some 14), (.bin .geq (.tmp 13) (.const (.int .u64 256))), none⟩])
     (.cond (.tmp 14)
      (.seq (.ops [
        ⟨(some 15), (.mv (.tmp 0)), none⟩, 
        ⟨(some 16), (.bin .shr (.tmp 15) (.const (.int .u64 8))), none⟩, 
        ⟨(some 0), (.mv (.tmp 16)), none⟩])
       (.ops [
        ⟨(some 17), (.mv (.tmp 2)), none⟩, 
        ⟨(some 18), (.bin .add (.tmp 17) (.const (.int .i64 8))), none⟩, 
        ⟨(some 2), (.mv (.tmp 18)), none⟩]))
      .skip))
    (.seq (.ops [
      ⟨(some 19), (.mv (.tmp 2)), none⟩, 
      ⟨(some 20), (.mv (.tmp 0)), none⟩, 
      ⟨(some 21), (.convInt .u8 (.tmp 20)), none⟩, 
      ⟨(some 22), (.idxStr (.const (.string ⟨#[0, 1, 2, 2, 3, 3, 3, 3, 4, 4, 4, 4, 4, 4, 4, 4, 5, 5, 5, 5, 5, 5, 5, 5, 5, 5, 5, 5, 5, 5, 5, 5, 6, 6, 6, 6, 6, 6, 6, 6, 6, 6, 6, 6, 6, 6, 6, 6, 6, 6, 6, 6, 6, 6, 6, 6, 6, 6, 6, 6, 6, 6, 6, 6, 7, 7, 7, 7, 7, 7, 7, 7, 7, 7, 7, 7, 7, 7, 7, 7, 7, 7, 7, 7, 7, 7, 7, 7, 7, 7, 7, 7, 7, 7, 7, 7, 7, 7, 7, 7, 7, 7, 7, 7, 7, 7, 7, 7, 7, 7, 7, 7, 7, 7, 7, 7, 7, 7, 7, 7, 7, 7, 7, 7, 7, 7, 7, 7, 8, 8, 8, 8, 8, 8, 8, 8, 8, 8, 8, 8, 8, 8, 8, 8, 8, 8, 8, 8, 8, 8, 8, 8, 8, 8, 8, 8, 8, 8, 8, 8, 8, 8, 8, 8, 8, 8, 8, 8, 8, 8, 8, 8, 8, 8, 8, 8, 8, 8, 8, 8, 8, 8, 8, 8, 8, 8, 8, 8, 8, 8, 8, 8, 8, 8, 8, 8, 8, 8, 8, 8, 8, 8, 8, 8, 8, 8, 8, 8, 8, 8, 8, 8, 8, 8, 8, 8, 8, 8, 8, 8, 8, 8, 8, 8, 8, 8, 8, 8, 8, 8, 8, 8, 8, 8, 8, 8, 8, 8, 8, 8, 8, 8, 8, 8, 8, 8, 8, 8, 8, 8, 8, 8, 8, 8, 8, 8]⟩)) (.tmp 21)), none⟩, 
      ⟨(some 23), (.convInt .i64 (.tmp 22)), none⟩, 
      ⟨(some 24), (.bin .add (.tmp 19) (.tmp 23)), none⟩, 
      ⟨(some 2), (.mv (.tmp 24)), none⟩])
     .ret)))))
theorem c60 {args : Array Value} {h : Heap} {R : Ending → Heap → Prop} (ha : args.size ≤ 25) (hh : aexec Try.prog ac60 (abody [(.slot 2)] R) ⟨initFr args.toList, []⟩ h) : HCalls Try.prog 60 args h R :=
  hcalls_of Try.func60 rfl rfl (by kernel_rfl) (by kernel_rfl) ha hh
/-- 61: slices.siftDownOrdered[int] -/
def ac61 : ACode :=
 (.seq (.ops [
  ⟨(some 10), (.mv (.tmp 1)), none⟩, 
  ⟨(some 8), (.mv (.tmp 10)), none⟩])
 (.block 0
  (.loop
   (.block 1
    (.seq (.ops [
      ⟨(some 11), (.mv (.tmp 8)), none⟩, 
      ⟨(some 12), (.bin .mul (.const (.int .i64 2)) (.tmp 11)), none⟩, 
      ⟨(some 13), (.bin .add (.tmp 12) (.const (.int .i64 1))), none⟩, 
      ⟨(some 9), (.mv (.tmp 13)), none⟩])
     (.seq (.seq (.ops [
        ⟨(some 14), (.mv (.tmp 9)), none⟩, 
        ⟨(some 15), (.mv (.tmp 2)), none⟩, 
        ⟨(some 16), (.bin .geq (.tmp 14) (.tmp 15)), none⟩])
       (.cond (.tmp 16)
        (.exit 0)
        .skip))
      (.seq (.seq (.any [17, 18, 19, 20, 21, 22, 23, 24, 25, 26, 27, 28, 29, 30, 31, 32, 33, 34, 35, 36] [
         ⟨(some 17), (.mv (.tmp 9)), none⟩, 
         ⟨(some 18), (.bin .add (.tmp 17) (.const (.int .i64 1))), none⟩, 
         ⟨(some 19), (.mv (.tmp 2)), none⟩, 
         ⟨(some 20), (.bin .lss (.tmp 18) (.tmp 19)), none⟩, 
         ⟨(some 21), (.mv (.tmp 20)), none⟩, 
         ⟨(some 22), (.mv (.tmp 0)), (some (21, true))⟩, 
         ⟨(some 23), (.mv (.tmp 3)), (some (21, true))⟩, 
         ⟨(some 24), (.mv (.tmp 9)), (some (21, true))⟩, 
         ⟨(some 25), (.bin .add (.tmp 23) (.tmp 24)), (some (21, true))⟩, 
         ⟨(some 26), (.idxSl 1 (.tmp 22) (.tmp 25)), (some (21, true))⟩, 
         ⟨(some 27), (.load1 (.tmp 26)), (some (21, true))⟩, 
         ⟨(some 28), (.mv (.tmp 0)), (some (21, true))⟩, 
         ⟨(some 29), (.mv (.tmp 3)), (some (21, true))⟩, 
         ⟨(some 30), (.mv (.tmp 9)), (some (21, true))⟩, 
         ⟨(some 31), (.bin .add (.tmp 29) (.tmp 30)), (some (21, true))⟩, 
         ⟨(some 32), (.bin .add (.tmp 31) (.const (.int .i64 1))), (some (21, true))⟩, 
         ⟨(some 33), (.idxSl 1 (.tmp 28) (.tmp 32)), (some (21, true))⟩, 
         ⟨(some 34), (.load1 (.tmp 33)), (some (21, true))⟩, 
         ⟨(some 35), (.callF 56 [(.tmp 27), (.tmp 34)]), (some (21, true))⟩, 
         ⟨(some 36), (.pick (.tmp 21) (.tmp 35) (.const (.bool false))), none⟩])
        (.cond (.tmp 36)
         (.ops [
          ⟨(some 37), (.mv (.tmp 9)), none⟩, 
          ⟨(some 38), (.bin .add (.tmp 37) (.const (.int .i64 1))), none⟩, 
          ⟨(some 9), (.mv (.tmp 38)), none⟩])
         .skip))
       (.seq (.seq (.any [39, 40, 41, 42, 43, 44, 45, 46, 47, 48, 49, 50, 51, 52] [
          ⟨(some 39), (.mv (.tmp 0)), none⟩, 
          ⟨(some 40), (.mv (.tmp 3)), none⟩, 
          ⟨(some 41), (.mv (.tmp 8)), none⟩, 
          ⟨(some 42), (.bin .add (.tmp 40) (.tmp 41)), none⟩, 
          ⟨(some 43), (.idxSl 1 (.tmp 39) (.tmp 42)), none⟩, 
          ⟨(some 44), (.load1 (.tmp 43)), none⟩, 
          ⟨(some 45), (.mv (.tmp 0)), none⟩, 
          ⟨(some 46), (.mv (.tmp 3)), none⟩, 
          ⟨(some 47), (.mv (.tmp 9)), none⟩, 
          ⟨(some 48), (.bin .add (.tmp 46) (.tmp 47)), none⟩, 
          ⟨(some 49), (.idxSl 1 (.tmp 45) (.tmp 48)), none⟩, 
          ⟨(some 50), (.load1 (.tmp 49)), none⟩, 
          ⟨(some 51), (.callF 56 [(.tmp 44), (.tmp 50)]), none⟩, 
          ⟨(some 52), (.un .not (.tmp 51)), none⟩])
         (.cond (.tmp 52)
          .ret
          .skip))
        (.seq (.any [53, 54, 55, 56, 57, 58, 59, 60, 61, 62, 63, 64, 65, 66, 67, 68, 69, 70, 71, 72, 73, 74] [
          ⟨(some 53), (.mv (.tmp 0)), none⟩, 
          ⟨(some 54), (.mv (.tmp 3)), none⟩, 
          ⟨(some 55), (.mv (.tmp 8)), none⟩, 
          ⟨(some 56), (.bin .add (.tmp 54) (.tmp 55)), none⟩, 
          ⟨(some 57), (.mv (.tmp 0)), none⟩, 
          ⟨(some 58), (.mv (.tmp 3)), none⟩, 
          ⟨(some 59), (.mv (.tmp 9)), none⟩, 
          ⟨(some 60), (.bin .add (.tmp 58) (.tmp 59)), none⟩, 
          ⟨(some 61), (.mv (.tmp 0)), none⟩, 
          ⟨(some 62), (.mv (.tmp 3)), none⟩, 
          ⟨(some 63), (.mv (.tmp 9)), none⟩, 
          ⟨(some 64), (.bin .add (.tmp 62) (.tmp 63)), none⟩, 
          ⟨(some 65), (.idxSl 1 (.tmp 61) (.tmp 64)), none⟩, 
          ⟨(some 66), (.load1 (.tmp 65)), none⟩, 
          ⟨(some 67), (.mv (.tmp 0)), none⟩, 
          ⟨(some 68), (.mv (.tmp 3)), none⟩, 
          ⟨(some 69), (.mv (.tmp 8)), none⟩, 
          ⟨(some 70), (.bin .add (.tmp 68) (.tmp 69)), none⟩, 
          ⟨(some 71), (.idxSl 1 (.tmp 67) (.tmp 70)), none⟩, 
          ⟨(some 72), (.load1 (.tmp 71)), none⟩, 
          ⟨(some 73), (.idxSl 1 (.tmp 53) (.tmp 56)), none⟩, 
          ⟨none, (.store1 (.tmp 73) (.tmp 66)), none⟩, 
          ⟨(some 74), (.idxSl 1 (.tmp 57) (.tmp 60)), none⟩, 
          ⟨none, (.store1 (.tmp 74) (.tmp 72)), none⟩])
         (.ops [
          ⟨(some 75), (.mv (.tmp 9)), none⟩, 
          ⟨(some 8), (.mv (.tmp 75)), none⟩]))))))))))
theorem c61 {args : Array Value} {h : Heap} {R : Ending → Heap → Prop} (ha : args.size ≤ 76) (hh : aexec Try.prog ac61 (abody [] R) ⟨initFr args.toList, []⟩ h) : HCalls Try.prog 61 args h R :=
  hcalls_of Try.func61 rfl rfl (by kernel_rfl) (by kernel_rfl) ha hh
/-- 62: slices.nextPowerOfTwo -/
def ac62 : ACode :=
 (.seq (.ops [
  ⟨(some 2), (.mv (.const (.int .u64 0))), none⟩])
 (.seq (.ops [
   ⟨(some 3), (.mv (.tmp 0)), none⟩, 
   ⟨(some 4), (.convInt .u64 (.tmp 3)), none⟩, 
   ⟨(some 5), (.callF 49 [(.tmp 4)]), none⟩, 
   ⟨(some 6), (.bin .shl (.const (.int .u64 1)) (.tmp 5)), none⟩, 
   ⟨(some 2), (.mv (.tmp 6)), none⟩])
  .ret))
theorem c62 {args : Array Value} {h : Heap} {R : Ending → Heap → Prop} (ha : args.size ≤ 7) (hh : aexec Try.prog ac62 (abody [(.slot 2)] R) ⟨initFr args.toList, []⟩ h) : HCalls Try.prog 62 args h R :=
  hcalls_of Try.func62 rfl rfl (by kernel_rfl) (by kernel_rfl) ha hh
/-- 63: (*slices.xorshift).Next -/
def ac63 : ACode :=
 (.seq (.ops [
  ⟨(some 2), (.mv (.const (.int .u64 0))), none⟩])
 (.seq (.any [3, 4, 5, 6, 7, 8, 9, 10, 11] [
   ⟨(some 3), (.mv (.tmp 0)), none⟩, 
   ⟨(some 4), (.nilCheck (.tmp 3)), none⟩, 
   ⟨(some 5), (.load1 (.tmp 4)), none⟩, 
   ⟨(some 6), (.mv (.tmp 0)), none⟩, 
   ⟨(some 7), (.nilCheck (.tmp 6)), none⟩, 
   ⟨(some 8), (.load1 (.tmp 7)), none⟩, 
   ⟨(some 9), (.bin .shl (.tmp 8) (.const (.int .u64 13))), none⟩, 
   ⟨(some 10), (.bin .xor (.tmp 5) (.tmp 9)), none⟩, 
   ⟨(some 11), (.nilCheck (.tmp 3)), none⟩, 
   ⟨none, (.store1 (.tmp 11) (.tmp 10)), none⟩])
  (.seq (.any [12, 13, 14, 15, 16, 17, 18, 19, 20] [
    ⟨(some 12), (.mv (.tmp 0)), none⟩, 
    ⟨(some 13), (.nilCheck (.tmp 12)), none⟩, 
    ⟨(some 14), (.load1 (.tmp 13)), none⟩, 
    ⟨(some 15), (.mv (.tmp 0)), none⟩, 
    ⟨(some 16), (.nilCheck (.tmp 15)), none⟩, 
    ⟨(some 17), (.load1 (.tmp 16)), none⟩, 
    ⟨(some 18), (.bin .shr (.tmp 17) (.const (.int .u64 7))), none⟩, 
    ⟨(some 19), (.bin .xor (.tmp 14) (.tmp 18)), none⟩, 
    ⟨(some 20), (.nilCheck (.tmp 12)), none⟩, 
    ⟨none, (.store1 (.tmp 20) (.tmp 19)), none⟩])
   (.seq (.any [21, 22, 23, 24, 25, 26, 27, 28, 29] [
     ⟨(some 21), (.mv (.tmp 0)), none⟩, 
     ⟨(some 22), (.nilCheck (.tmp 21)), none⟩, 
     ⟨(some 23), (.load1 (.tmp 22)), none⟩, 
     ⟨(some 24), (.mv (.tmp 0)), none⟩, 
     ⟨(some 25), (.nilCheck (.tmp 24)), none⟩, 
     ⟨(some 26), (.load1 (.tmp 25)), none⟩, 
     ⟨(some 27), (.bin .shl (.tmp 26) (.const (.int .u64 17))), none⟩, 
     ⟨(some 28), (.bin .xor (.tmp 23) (.tmp 27)), none⟩, 
     ⟨(some 29), (.nilCheck (.tmp 21)), none⟩, 
     ⟨none, (.store1 (.tmp 29) (.tmp 28)), none⟩])
    (.seq (.ops [
      ⟨(some 30), (.mv (.tmp 0)), none⟩, 
      ⟨(some 31), (.nilCheck (.tmp 30)), none⟩, 
      ⟨(some 32), (.load1 (.tmp 31)), none⟩, 
      ⟨(some 2), (.mv (.tmp 32)), none⟩])
     .ret)))))
theorem c63 {args : Array Value} {h : Heap} {R : Ending → Heap → Prop} (ha : args.size ≤ 33) (hh : aexec Try.prog ac63 (abody [(.slot 2)] R) ⟨initFr args.toList, []⟩ h) : HCalls Try.prog 63 args h R :=
  hcalls_of Try.func63 rfl rfl (by kernel_rfl) (by kernel_rfl) ha hh
/-- 64: slices.medianAdjacentOrdered[int] -/
def ac64 : ACode :=
 (.seq (.ops [
  ⟨(some 6), (.mv (.const (.int .i64 0))), none⟩])
 (.seq (.ops [
   ⟨(some 7), (.mv (.tmp 0)), none⟩, 
   ⟨(some 8), (.mv (.tmp 1)), none⟩, 
   ⟨(some 9), (.bin .sub (.tmp 8) (.const (.int .i64 1))), none⟩, 
   ⟨(some 10), (.mv (.tmp 1)), none⟩, 
   ⟨(some 11), (.mv (.tmp 1)), none⟩, 
   ⟨(some 12), (.bin .add (.tmp 11) (.const (.int .i64 1))), none⟩, 
   ⟨(some 13), (.mv (.tmp 2)), none⟩, 
   ⟨(some 14), (.callF 65 [(.tmp 7), (.tmp 9), (.tmp 10), (.tmp 12), (.tmp 13)]), none⟩, 
   ⟨(some 6), (.mv (.tmp 14)), none⟩])
  .ret))
theorem c64 {args : Array Value} {h : Heap} {R : Ending → Heap → Prop} (ha : args.size ≤ 15) (hh : aexec Try.prog ac64 (abody [(.slot 6)] R) ⟨initFr args.toList, []⟩ h) : HCalls Try.prog 64 args h R :=
  hcalls_of Try.func64 rfl rfl (by kernel_rfl) (by kernel_rfl) ha hh
/-- 65: slices.medianOrdered[int] -/
def ac65 : ACode :=
 (.seq (.ops [
  ⟨(some 10), (.mv (.const (.int .i64 0))), none⟩])
 (.seq (.ops [
   ⟨(some 12), (.mv (.tmp 0)), none⟩, 
   ⟨(some 13), (.mv (.tmp 1)), none⟩, 
   ⟨(some 14), (.mv (.tmp 2)), none⟩, 
   ⟨(some 15), (.mv (.tmp 4)), none⟩, 
   ⟨(some 16), (.callF 67 [(.tmp 12), (.tmp 13), (.tmp 14), (.tmp 15)]), none⟩, 
   ⟨(some 11), (.mv (.tmp 16)), none⟩, 
   ⟨(some 17), (.extract (.tmp 11) 0), none⟩, 
   ⟨(some 18), (.extract (.tmp 11) 1), none⟩, 
   ⟨(some 1), (.mv (.tmp 17)), none⟩, 
   ⟨(some 2), (.mv (.tmp 18)), none⟩])
  (.seq (.ops [
    ⟨(some 20), (.mv (.tmp 0)), none⟩, 
    ⟨(some 21), (.mv (.tmp 2)), none⟩, 
    ⟨(some 22), (.mv (.tmp 3)), none⟩, 
    ⟨(some 23), (.mv (.tmp 4)), none⟩, 
    ⟨(some 24), (.callF 67 [(.tmp 20), (.tmp 21), (.tmp 22), (.tmp 23)]), none⟩, 
    ⟨(some 19), (.mv (.tmp 24)), none⟩, 
    ⟨(some 25), (.extract (.tmp 19) 0), none⟩, 
    ⟨(some 26), (.extract (.tmp 19) 1), none⟩, 
    ⟨(some 2), (.mv (.tmp 25)), none⟩, 
    ⟨(some 3), (.mv (.tmp 26)), none⟩])
   (.seq (.ops [
     ⟨(some 28), (.mv (.tmp 0)), none⟩, 
     ⟨(some 29), (.mv (.tmp 1)), none⟩, 
     ⟨(some 30), (.mv (.tmp 2)), none⟩, 
     ⟨(some 31), (.mv (.tmp 4)), none⟩, 
     ⟨(some 32), (.callF 67 [(.tmp 28), (.tmp 29), (.tmp 30), (.tmp 31)]), none⟩, 
     ⟨(some 27), (.mv (.tmp 32)), none⟩, 
     ⟨(some 33), (.extract (.tmp 27) 0), none⟩, 
     ⟨(some 34), (.extract (.tmp 27) 1), none⟩, 
     ⟨(some 1), (.mv (.tmp 33)), none⟩, 
     ⟨(some 2), (.mv (.tmp 34)), none⟩])
    (.seq (.ops [
      ⟨(some 35), (.mv (.tmp 2)), none⟩, 
      ⟨(some 10), (.mv (.tmp 35)), none⟩])
     .ret)))))
theorem c65 {args : Array Value} {h : Heap} {R : Ending → Heap → Prop} (ha : args.size ≤ 36) (hh : aexec Try.prog ac65 (abody [(.slot 10)] R) ⟨initFr args.toList, []⟩ h) : HCalls Try.prog 65 args h R :=
  hcalls_of Try.func65 rfl rfl (by kernel_rfl) (by kernel_rfl) ha hh
/-- 66: cmp.isNaN[int] -/
def ac66 : ACode :=
 (.seq (.ops [
  ⟨(some 2), (.mv (.const (.bool false))), none⟩])
 (.seq (.ops [
   ⟨(some 3), (.mv (.tmp 0)), none⟩, 
   ⟨(some 4), (.mv (.tmp 0)), none⟩, 
   ⟨(some 5), (.bin .neq (.tmp 3) (.tmp 4)), none⟩, 
   ⟨(some 2), (.mv (.tmp 5)), none⟩])
  .ret))
theorem c66 {args : Array Value} {h : Heap} {R : Ending → Heap → Prop} (ha : args.size ≤ 6) (hh : aexec Try.prog ac66 (abody [(.slot 2)] R) ⟨initFr args.toList, []⟩ h) : HCalls Try.prog 66 args h R :=
  hcalls_of Try.func66 rfl rfl (by kernel_rfl) (by kernel_rfl) ha hh
/-- 67: slices.order2Ordered[int] -/
def ac67 : ACode :=
 (.seq (.ops [
  ⟨(some 8), (.mv (.const (.int .i64 0))), none⟩, 
  ⟨(some 9), (.mv (.const (.int .i64 0))), none⟩])
 (.seq (.seq (.any [10, 11, 12, 13, 14, 15, 16, 17, 18] [
    ⟨(some 10), (.mv (.tmp 0)), none⟩, 
    ⟨(some 11), (.mv (.tmp 2)), none⟩, 
    ⟨(some 12), (.idxSl 1 (.tmp 10) (.tmp 11)), none⟩, 
    ⟨(some 13), (.load1 (.tmp 12)), none⟩, 
    ⟨(some 14), (.mv (.tmp 0)), none⟩, 
    ⟨(some 15), (.mv (.tmp 1)), none⟩, 
    ⟨(some 16), (.idxSl 1 (.tmp 14) (.tmp 15)), none⟩, 
    ⟨(some 17), (.load1 (.tmp 16)), none⟩, 
    ⟨(some 18), (.callF 56 [(.tmp 13), (.tmp 17)]), none⟩])
   (.cond (.tmp 18)
    (.seq (.ops [
      ⟨(some 19), (.mv (.tmp 3)), none⟩, 
      ⟨(some 20), (.nilCheck (.tmp 19)), none⟩, 
      ⟨(some 21), (.load1 (.tmp 20)), none⟩, 
      ⟨(some 22), (.bin .add (.tmp 21) (.const (.int .i64 1))), none⟩, 
      ⟨(some 23), (.nilCheck (.tmp 19)), none⟩, 
      ⟨none, (.store1 (.tmp 23) (.tmp 22)), none⟩])
     (.seq (.ops [
       ⟨(some 24), (.mv (.tmp 2)), none⟩, 
       ⟨(some 25), (.mv (.tmp 1)), none⟩, 
       ⟨(some 8), (.mv (.tmp 24)), none⟩, 
       ⟨(some 9), (.mv (.tmp 25)), none⟩])
      .ret))
    .skip))
  (.seq (.ops [
    ⟨(some 26), (.mv (.tmp 1)), none⟩, 
    ⟨(some 27), (.mv (.tmp 2)), none⟩, 
    ⟨(some 8), (.mv (.tmp 26)), none⟩, 
    ⟨(some 9), (.mv (.tmp 27)), none⟩])
   .ret)))
theorem c67 {args : Array Value} {h : Heap} {R : Ending → Heap → Prop} (ha : args.size ≤ 28) (hh : aexec Try.prog ac67 (abody [(.slot 8), (.slot 9)] R) ⟨initFr args.toList, []⟩ h) : HCalls Try.prog 67 args h R :=
  hcalls_of Try.func67 rfl rfl (by kernel_rfl) (by kernel_rfl) ha hh
end Go.Proofs.Ytlbmhpjefpdekaa.Hc
