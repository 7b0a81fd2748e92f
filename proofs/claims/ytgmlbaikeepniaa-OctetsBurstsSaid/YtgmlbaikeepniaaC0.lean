import Derived.Test.YtgmlbaikeepniaaProg
import Derived.Test.YtgmlbaikeepniaaHG
import Derived.KernelRfl
set_option linter.unusedVariables false
namespace Go.Proofs.Ytgmlbaikeepniaa.Hc
open Go Go.H Go.Proofs
set_option maxRecDepth 100000
/-- 3: credenza/credenzalaw02.OctetsOrder -/
def ac3 : ACode :=
 (.seq (.ops [
  ⟨(some 4), (.mv (.const (.bool false))), none⟩])
 (.seq (.ops [
   ⟨(some 8), (.callF 10 []), none⟩, 
   ⟨(some 5), (.mv (.tmp 8)), none⟩])
  (.seq (.ops [
    ⟨(some 9), (.mv (.tmp 0)), none⟩, 
    ⟨(some 10), (.mv (.tmp 1)), none⟩, 
    ⟨(some 11), (.minmax false (.tmp 9) [(.tmp 10)]), none⟩, 
    ⟨(some 12), (.callF 11 [(.tmp 11)]), none⟩, 
    ⟨(some 6), (.mv (.tmp 12)), none⟩])
   (.seq (.ops [
     ⟨(some 13), (.mv (.tmp 0)), none⟩, 
     ⟨(some 14), (.mv (.tmp 1)), none⟩, 
     ⟨(some 15), (.minmax true (.tmp 13) [(.tmp 14)]), none⟩, 
     ⟨(some 16), (.callF 11 [(.tmp 15)]), none⟩, 
     ⟨(some 7), (.mv (.tmp 16)), none⟩])
    (.seq (.ops [
      ⟨(some 17), (.mv (.tmp 5)), none⟩, 
      ⟨(some 18), (.mv (.tmp 17)), none⟩, 
      ⟨(some 19), (.mv (.tmp 6)), (some (18, true))⟩, 
      ⟨(some 20), (.lenSl (.tmp 19)), (some (18, true))⟩, 
      ⟨(some 21), (.bin .geq (.tmp 20) (.const (.int .i64 1))), (some (18, true))⟩, 
      ⟨(some 22), (.pick (.tmp 18) (.tmp 21) (.const (.bool false))), none⟩, 
      ⟨(some 23), (.mv (.tmp 22)), none⟩, 
      ⟨(some 24), (.mv (.tmp 6)), (some (23, true))⟩, 
      ⟨(some 25), (.lenSl (.tmp 24)), (some (23, true))⟩, 
      ⟨(some 26), (.mv (.tmp 7)), (some (23, true))⟩, 
      ⟨(some 27), (.lenSl (.tmp 26)), (some (23, true))⟩, 
      ⟨(some 28), (.bin .leq (.tmp 25) (.tmp 27)), (some (23, true))⟩, 
      ⟨(some 29), (.pick (.tmp 23) (.tmp 28) (.const (.bool false))), none⟩, 
      ⟨(some 30), (.mv (.tmp 29)), none⟩, 
      ⟨(some 31), (.mv (.tmp 7)), (some (30, true))⟩, 
      ⟨(some 32), (.lenSl (.tmp 31)), (some (30, true))⟩, 
      ⟨(some 33), (.bin .leq (.tmp 32) (.const (.int .i64 10))), (some (30, true))⟩, 
      ⟨(some 34), (.pick (.tmp 30) (.tmp 33) (.const (.bool false))), none⟩, 
      ⟨(some 4), (.mv (.tmp 34)), none⟩])
     .ret)))))
theorem c3 {args : Array Value} {h : Heap} {R : Ending → Heap → Prop} (ha : args.size ≤ 35) (hh : aexec Try.prog ac3 (abody [(.slot 4)] R) ⟨initFr args.toList, []⟩ h) : HCalls Try.prog 3 args h R :=
  hcalls_of Try.func3 rfl rfl (by kernel_rfl) (by kernel_rfl) ha hh
/-- 4: credenza/credenzalaw02.OctetsWrite -/
def ac4 : ACode :=
 (.seq (.ops [
  ⟨(some 4), (.mv (.const (.bool false))), none⟩])
 (.seq (.ops [
   ⟨(some 5), (.callF 10 []), none⟩, 
   ⟨(some 6), (.mv (.tmp 5)), none⟩, 
   ⟨(some 7), (.mv (.tmp 0)), (some (6, true))⟩, 
   ⟨(some 8), (.callF 11 [(.tmp 7)]), (some (6, true))⟩, 
   ⟨(some 9), (.mv (.tmp 0)), (some (6, true))⟩, 
   ⟨(some 10), (.callF 13 [(.tmp 9)]), (some (6, true))⟩, 
   ⟨(some 11), (.callF 12 [(.tmp 8), (.tmp 10)]), (some (6, true))⟩, 
   ⟨(some 12), (.pick (.tmp 6) (.tmp 11) (.const (.bool false))), none⟩, 
   ⟨(some 13), (.mv (.tmp 12)), none⟩, 
   ⟨(some 14), (.mv (.tmp 1)), (some (13, true))⟩, 
   ⟨(some 15), (.callF 14 [(.tmp 14)]), (some (13, true))⟩, 
   ⟨(some 16), (.mv (.tmp 1)), (some (13, true))⟩, 
   ⟨(some 17), (.callF 15 [(.tmp 16)]), (some (13, true))⟩, 
   ⟨(some 18), (.callF 12 [(.tmp 15), (.tmp 17)]), (some (13, true))⟩, 
   ⟨(some 19), (.pick (.tmp 13) (.tmp 18) (.const (.bool false))), none⟩, 
   ⟨(some 4), (.mv (.tmp 19)), none⟩])
  .ret))
theorem c4 {args : Array Value} {h : Heap} {R : Ending → Heap → Prop} (ha : args.size ≤ 20) (hh : aexec Try.prog ac4 (abody [(.slot 4)] R) ⟨initFr args.toList, []⟩ h) : HCalls Try.prog 4 args h R :=
  hcalls_of Try.func4 rfl rfl (by kernel_rfl) (by kernel_rfl) ha hh
/-- 5: credenza/credenzalaw02.OctetsRead -/
def ac5 : ACode :=
 (.seq (.ops [
  ⟨(some 4), (.mv (.const (.bool false))), none⟩])
 (.seq (.ops [
   ⟨(some 18), (.mv (.tmp 0)), none⟩, 
   ⟨(some 19), (.callF 16 [(.tmp 18)]), none⟩, 
   ⟨(some 17), (.mv (.tmp 19)), none⟩, 
   ⟨(some 20), (.extract (.tmp 17) 0), none⟩, 
   ⟨(some 21), (.extract (.tmp 17) 1), none⟩, 
   ⟨(some 22), (.extract (.tmp 17) 2), none⟩, 
   ⟨(some 5), (.mv (.tmp 20)), none⟩, 
   ⟨(some 6), (.mv (.tmp 21)), none⟩, 
   ⟨(some 7), (.mv (.tmp 22)), none⟩])
  (.seq (.ops [
    ⟨(some 24), (.mv (.tmp 0)), none⟩, 
    ⟨(some 25), (.callF 17 [(.tmp 24)]), none⟩, 
    ⟨(some 23), (.mv (.tmp 25)), none⟩, 
    ⟨(some 26), (.extract (.tmp 23) 0), none⟩, 
    ⟨(some 27), (.extract (.tmp 23) 1), none⟩, 
    ⟨(some 28), (.extract (.tmp 23) 2), none⟩, 
    ⟨(some 8), (.mv (.tmp 26)), none⟩, 
    ⟨(some 9), (.mv (.tmp 27)), none⟩, 
    ⟨(some 10), (.mv (.tmp 28)), none⟩])
   (.seq (.ops [
     ⟨(some 30), (.mv (.tmp 0)), none⟩, 
     ⟨(some 31), (.mv (.tmp 1)), none⟩, 
     ⟨(some 32), (.callF 18 [(.tmp 30), (.tmp 31)]), none⟩, 
     ⟨(some 29), (.mv (.tmp 32)), none⟩, 
     ⟨(some 33), (.extract (.tmp 29) 0), none⟩, 
     ⟨(some 34), (.extract (.tmp 29) 1), none⟩, 
     ⟨(some 35), (.extract (.tmp 29) 2), none⟩, 
     ⟨(some 11), (.mv (.tmp 33)), none⟩, 
     ⟨(some 12), (.mv (.tmp 34)), none⟩, 
     ⟨(some 13), (.mv (.tmp 35)), none⟩])
    (.seq (.ops [
      ⟨(some 37), (.mv (.tmp 0)), none⟩, 
      ⟨(some 38), (.mv (.tmp 1)), none⟩, 
      ⟨(some 39), (.callF 19 [(.tmp 37), (.tmp 38)]), none⟩, 
      ⟨(some 36), (.mv (.tmp 39)), none⟩, 
      ⟨(some 40), (.extract (.tmp 36) 0), none⟩, 
      ⟨(some 41), (.extract (.tmp 36) 1), none⟩, 
      ⟨(some 42), (.extract (.tmp 36) 2), none⟩, 
      ⟨(some 14), (.mv (.tmp 40)), none⟩, 
      ⟨(some 15), (.mv (.tmp 41)), none⟩, 
      ⟨(some 16), (.mv (.tmp 42)), none⟩])
     (.seq (.ops [
       ⟨(some 43), (.callF 10 []), none⟩, 
       ⟨(some 44), (.mv (.tmp 43)), none⟩, 
       ⟨(some 45), (.mv (.tmp 5)), (some (44, true))⟩, 
       ⟨(some 46), (.mv (.tmp 8)), (some (44, true))⟩, 
       ⟨(some 47), (.bin .eql (.tmp 45) (.tmp 46)), (some (44, true))⟩, 
       ⟨(some 48), (.pick (.tmp 44) (.tmp 47) (.const (.bool false))), none⟩, 
       ⟨(some 49), (.mv (.tmp 48)), none⟩, 
       ⟨(some 50), (.mv (.tmp 6)), (some (49, true))⟩, 
       ⟨(some 51), (.mv (.tmp 9)), (some (49, true))⟩, 
       ⟨(some 52), (.bin .eql (.tmp 50) (.tmp 51)), (some (49, true))⟩, 
       ⟨(some 53), (.pick (.tmp 49) (.tmp 52) (.const (.bool false))), none⟩, 
       ⟨(some 54), (.mv (.tmp 53)), none⟩, 
       ⟨(some 55), (.mv (.tmp 7)), (some (54, true))⟩, 
       ⟨(some 56), (.mv (.tmp 10)), (some (54, true))⟩, 
       ⟨(some 57), (.bin .eql (.tmp 55) (.tmp 56)), (some (54, true))⟩, 
       ⟨(some 58), (.pick (.tmp 54) (.tmp 57) (.const (.bool false))), none⟩, 
       ⟨(some 59), (.mv (.tmp 58)), none⟩, 
       ⟨(some 60), (.mv (.tmp 11)), (some (59, true))⟩, 
       ⟨(some 61), (.mv (.tmp 14)), (some (59, true))⟩, 
       ⟨(some 62), (.bin .eql (.tmp 60) (.tmp 61)), (some (59, true))⟩, 
       ⟨(some 63), (.pick (.tmp 59) (.tmp 62) (.const (.bool false))), none⟩, 
       ⟨(some 64), (.mv (.tmp 63)), none⟩, 
       ⟨(some 65), (.mv (.tmp 12)), (some (64, true))⟩, 
       ⟨(some 66), (.mv (.tmp 15)), (some (64, true))⟩, 
       ⟨(some 67), (.bin .eql (.tmp 65) (.tmp 66)), (some (64, true))⟩, 
       ⟨(some 68), (.pick (.tmp 64) (.tmp 67) (.const (.bool false))), none⟩, 
       ⟨(some 69), (.mv (.tmp 68)), none⟩, 
       ⟨(some 70), (.mv (.tmp 13)), (some (69, true))⟩, 
       ⟨(some 71), (.mv (.tmp 16)), (some (69, true))⟩, 
       ⟨(some 72), (.bin .eql (.tmp 70) (.tmp 71)), (some (69, true))⟩, 
       ⟨(some 73), (.pick (.tmp 69) (.tmp 72) (.const (.bool false))), none⟩, 
       ⟨(some 4), (.mv (.tmp 73)), none⟩])
      .ret))))))
theorem c5 {args : Array Value} {h : Heap} {R : Ending → Heap → Prop} (ha : args.size ≤ 74) (hh : aexec Try.prog ac5 (abody [(.slot 4)] R) ⟨initFr args.toList, []⟩ h) : HCalls Try.prog 5 args h R :=
  hcalls_of Try.func5 rfl rfl (by kernel_rfl) (by kernel_rfl) ha hh
/-- 6: credenza/credenzalaw02.OctetsBursts -/
def ac6 : ACode :=
 (.seq (.ops [
  ⟨(some 6), (.mv (.const (.bool false))), none⟩])
 (.seq (.ops [
   ⟨(some 16), (.callF 20 []), none⟩, 
   ⟨(some 7), (.mv (.tmp 16)), none⟩])
  (.seq (.ops [
    ⟨(some 17), (.mv (.tmp 0)), none⟩, 
    ⟨(some 18), (.callF 21 [(.tmp 17)]), none⟩, 
    ⟨(some 8), (.mv (.tmp 18)), none⟩])
   (.seq (.seq (.ops [
      ⟨(some 19), (.mv (.tmp 8)), none⟩, 
      ⟨(some 20), (.lenSl (.tmp 19)), none⟩, 
      ⟨(some 21), (.bin .lss (.tmp 20) (.const (.int .i64 8))), none⟩, 
      ⟨(some 22), (.mv (.tmp 21)), none⟩, 
      ⟨(some 23), (.mv (.tmp 0)), (some (22, false))⟩, 
      ⟨(some 24), (.lenSl (.tmp 23)), (some (22, false))⟩, 
      ⟨(some 25), (.bin .gtr (.tmp 24) (.const (.int .i64 4000))), (some (22, false))⟩, 
      ⟨(some 26), (.pick (.tmp 22) (.const (.bool true)) (.tmp 25)), none⟩, 
      ⟨(some 27), (.mv (.tmp 26)), none⟩, 
      ⟨(some 28), (.mv (.tmp 2)), (some (27, false))⟩, 
      ⟨(some 29), (.bin .eql (.tmp 28) (.const (.int .u32 0))), (some (27, false))⟩, 
      ⟨(some 30), (.pick (.tmp 27) (.const (.bool true)) (.tmp 29)), none⟩])
     (.cond (.tmp 30)
      (.seq (.ops [
        ⟨(some 31), (.mv (.tmp 7)), none⟩, 
        ⟨(some 32), (.mv (.tmp 31)), none⟩, 
        ⟨(some 33), (.mv (.tmp 8)), (some (32, true))⟩, 
        ⟨(some 34), (.lenSl (.tmp 33)), (some (32, true))⟩, 
        ⟨(some 35), (.bin .geq (.tmp 34) (.const (.int .i64 8))), (some (32, true))⟩, 
        ⟨(some 36), (.pick (.tmp 32) (.tmp 35) (.const (.bool false))), none⟩, 
        ⟨(some 6), (.mv (.tmp 36)), none⟩])
       .ret)
      .skip))
    (.seq (.ops [
      ⟨(some 37), (.mv (.tmp 8)), none⟩, 
      ⟨(some 38), (.lenSl (.tmp 37)), none⟩, 
      ⟨(some 39), (.bin .mul (.const (.int .i64 8)) (.tmp 38)), none⟩, 
      ⟨(some 40), (.bin .sub (.tmp 39) (.const (.int .i64 31))), none⟩, 
      ⟨(some 9), (.mv (.tmp 40)), none⟩])
     (.seq (.ops [
       ⟨(some 41), (.mv (.tmp 1)), none⟩, 
       ⟨(some 42), (.mv (.tmp 9)), none⟩, 
       ⟨(some 43), (.bin .rem (.tmp 41) (.tmp 42)), none⟩, 
       ⟨(some 44), (.mv (.tmp 9)), none⟩, 
       ⟨(some 45), (.bin .add (.tmp 43) (.tmp 44)), none⟩, 
       ⟨(some 46), (.mv (.tmp 9)), none⟩, 
       ⟨(some 47), (.bin .rem (.tmp 45) (.tmp 46)), none⟩, 
       ⟨(some 1), (.mv (.tmp 47)), none⟩])
      (.seq (.ops [
        ⟨(some 10), (.mv (.const (.bool false))), none⟩])
       (.seq (.ops [
         ⟨(some 11), (.mv (.const (.bool false))), none⟩])
        (.seq (.seq (.ops [
           ⟨(some 48), (.mv (.const (.int .i64 0))), none⟩])
          (.block 0
           (.loop
            (.seq (.ops [
              ⟨(some 49), (.bin .lss (.tmp 48) (.const (.int .i64 32))), none⟩])
             (.seq (.cond (.tmp 49)
               .skip
               (.exit 0))
              (.seq (.block 1
                (.seq (.ops [
                  ⟨(some 50), (.mv (.tmp 48)), none⟩, 
                  ⟨(some 12), (.mv (.tmp 50)), none⟩])
                 (.seq (.ops [
                   ⟨(some 51), (.mv (.tmp 2)), none⟩, 
                   ⟨(some 52), (.mv (.tmp 12)), none⟩, 
                   ⟨(some 53), (.convInt .u64 (.tmp 52)), none⟩, 
                   ⟨(some 54), (.bin .shr (.tmp 51) (.tmp 53)), none⟩, 
                   ⟨(some 55), (.bin .rem (.tmp 54) (.const (.int .u32 2))), none⟩, 
                   ⟨(some 56), (.bin .eql (.tmp 55) (.const (.int .u32 1))), none⟩])
                  (.cond (.tmp 56)
                   (.seq (.ops [
                     ⟨(some 57), (.mv (.tmp 10)), none⟩, 
                     ⟨(some 58), (.mv (.tmp 57)), none⟩, 
                     ⟨(some 59), (.mv (.tmp 1)), (some (58, false))⟩, 
                     ⟨(some 60), (.mv (.tmp 12)), (some (58, false))⟩, 
                     ⟨(some 61), (.bin .add (.tmp 59) (.tmp 60)), (some (58, false))⟩, 
                     ⟨(some 62), (.bin .lss (.tmp 61) (.const (.int .i64 64))), (some (58, false))⟩, 
                     ⟨(some 63), (.pick (.tmp 58) (.const (.bool true)) (.tmp 62)), none⟩, 
                     ⟨(some 10), (.mv (.tmp 63)), none⟩])
                    (.seq (.ops [
                      ⟨(some 64), (.mv (.tmp 11)), none⟩, 
                      ⟨(some 65), (.mv (.tmp 64)), none⟩, 
                      ⟨(some 66), (.mv (.tmp 1)), (some (65, false))⟩, 
                      ⟨(some 67), (.mv (.tmp 12)), (some (65, false))⟩, 
                      ⟨(some 68), (.bin .add (.tmp 66) (.tmp 67)), (some (65, false))⟩, 
                      ⟨(some 69), (.bin .geq (.tmp 68) (.const (.int .i64 64))), (some (65, false))⟩, 
                      ⟨(some 70), (.pick (.tmp 65) (.const (.bool true)) (.tmp 69)), none⟩, 
                      ⟨(some 11), (.mv (.tmp 70)), none⟩])
                     (.ops [
                      ⟨(some 71), (.mv (.tmp 8)), none⟩, 
                      ⟨(some 72), (.mv (.tmp 1)), none⟩, 
                      ⟨(some 73), (.mv (.tmp 12)), none⟩, 
                      ⟨(some 74), (.bin .add (.tmp 72) (.tmp 73)), none⟩, 
                      ⟨(some 75), (.bin .quo (.tmp 74) (.const (.int .i64 8))), none⟩, 
                      ⟨(some 76), (.idxSl 1 (.tmp 71) (.tmp 75)), none⟩, 
                      ⟨(some 77), (.load1 (.tmp 76)), none⟩, 
                      ⟨(some 78), (.mv (.tmp 1)), none⟩, 
                      ⟨(some 79), (.mv (.tmp 12)), none⟩, 
                      ⟨(some 80), (.bin .add (.tmp 78) (.tmp 79)), none⟩, 
                      ⟨(some 81), (.bin .rem (.tmp 80) (.const (.int .i64 8))), none⟩, 
                      ⟨(some 82), (.convInt .u64 (.tmp 81)), none⟩, 
                      ⟨(some 83), (.bin .shl (.const (.int .u8 1)) (.tmp 82)), none⟩, 
                      ⟨(some 84), (.bin .xor (.tmp 77) (.tmp 83)), none⟩, 
                      ⟨(some 85), (.idxSl 1 (.tmp 71) (.tmp 75)), none⟩, 
                      ⟨none, (.store1 (.tmp 85) (.tmp 84)), none⟩])))
                   .skip))))
               (.ops [
                ⟨(some 86), (.bin .add (.tmp 48) (.const (.int .i64 1))), none⟩, 
                ⟨(some 48), (.mv (.tmp 86)), none⟩])))))))
         (.seq (.seq (.ops [
            ⟨(some 87), (.mv (.tmp 10)), none⟩, 
            ⟨(some 88), (.mv (.tmp 87)), none⟩, 
            ⟨(some 89), (.mv (.tmp 11)), (some (88, true))⟩, 
            ⟨(some 90), (.pick (.tmp 88) (.tmp 89) (.const (.bool false))), none⟩])
           (.cond (.tmp 90)
            (.seq (.ops [
              ⟨(some 91), (.mv (.tmp 7)), none⟩, 
              ⟨(some 6), (.mv (.tmp 91)), none⟩])
             .ret)
            .skip))
          (.seq (.ops [
            ⟨(some 93), (.mv (.tmp 8)), none⟩, 
            ⟨(some 94), (.mv (.tmp 0)), none⟩, 
            ⟨(some 95), (.lenSl (.tmp 94)), none⟩, 
            ⟨(some 96), (.callF 22 [(.tmp 93), (.tmp 95)]), none⟩, 
            ⟨(some 92), (.mv (.tmp 96)), none⟩, 
            ⟨(some 97), (.extract (.tmp 92) 0), none⟩, 
            ⟨(some 98), (.extract (.tmp 92) 1), none⟩, 
            ⟨(some 99), (.extract (.tmp 92) 2), none⟩, 
            ⟨(some 13), (.mv (.tmp 97)), none⟩, 
            ⟨(some 14), (.mv (.tmp 98)), none⟩, 
            ⟨(some 15), (.mv (.tmp 99)), none⟩])
           (.seq (.ops [
             ⟨(some 100), (.mv (.tmp 7)), none⟩, 
             ⟨(some 101), (.mv (.tmp 100)), none⟩, 
             ⟨(some 102), (.mv (.tmp 15)), (some (101, true))⟩, 
             ⟨(some 103), (.bin .eql (.tmp 102) (.const (.int .i64 0))), (some (101, true))⟩, 
             ⟨(some 104), (.mv (.tmp 103)), (some (101, true))⟩, 
             ⟨(some 105), (.mv (.tmp 14)), (some (104, true))⟩, 
             ⟨(some 106), (.mv (.tmp 8)), (some (104, true))⟩, 
             ⟨(some 107), (.lenSl (.tmp 106)), (some (104, true))⟩, 
             ⟨(some 108), (.bin .eql (.tmp 105) (.tmp 107)), (some (104, true))⟩, 
             ⟨(some 109), (.pick (.tmp 104) (.tmp 108) (.const (.bool false))), (some (101, true))⟩, 
             ⟨(some 110), (.un .not (.tmp 109)), (some (101, true))⟩, 
             ⟨(some 111), (.pick (.tmp 101) (.tmp 110) (.const (.bool false))), none⟩, 
             ⟨(some 112), (.mv (.tmp 111)), none⟩, 
             ⟨(some 113), (.mv (.tmp 15)), (some (112, true))⟩, 
             ⟨(some 114), (.bin .neq (.tmp 113) (.const (.int .i64 0))), (some (112, true))⟩, 
             ⟨(some 115), (.mv (.tmp 114)), (some (112, true))⟩, 
             ⟨(some 116), (.mv (.tmp 13)), (some (115, false))⟩, 
             ⟨(some 117), (.lenSl (.tmp 116)), (some (115, false))⟩, 
             ⟨(some 118), (.mv (.tmp 0)), (some (115, false))⟩, 
             ⟨(some 119), (.lenSl (.tmp 118)), (some (115, false))⟩, 
             ⟨(some 120), (.bin .neq (.tmp 117) (.tmp 119)), (some (115, false))⟩, 
             ⟨(some 121), (.pick (.tmp 115) (.const (.bool true)) (.tmp 120)), (some (112, true))⟩, 
             ⟨(some 122), (.pick (.tmp 112) (.tmp 121) (.const (.bool false))), none⟩, 
             ⟨(some 6), (.mv (.tmp 122)), none⟩])
            .ret))))))))))))
theorem c6 {args : Array Value} {h : Heap} {R : Ending → Heap → Prop} (ha : args.size ≤ 123) (hh : aexec Try.prog ac6 (abody [(.slot 6)] R) ⟨initFr args.toList, []⟩ h) : HCalls Try.prog 6 args h R :=
  hcalls_of Try.func6 rfl rfl (by kernel_rfl) (by kernel_rfl) ha hh
/-- 7: credenza/credenzalaw02.OctetsFrames -/
def ac7 : ACode :=
 (.seq (.ops [
  ⟨(some 4), (.mv (.const (.bool false))), none⟩])
 (.seq (.ops [
   ⟨(some 16), (.mv (.tmp 0)), none⟩, 
   ⟨(some 17), (.append 5 1 1 [(.int .u8 0)] (.const (.slice none 0 0)) (.tmp 16)), none⟩, 
   ⟨(some 5), (.mv (.tmp 17)), none⟩])
  (.seq (.ops [
    ⟨(some 18), (.mv (.tmp 5)), none⟩, 
    ⟨(some 19), (.callF 21 [(.tmp 18)]), none⟩, 
    ⟨(some 6), (.mv (.tmp 19)), none⟩])
   (.seq (.ops [
     ⟨(some 21), (.mv (.tmp 5)), none⟩, 
     ⟨(some 22), (.mv (.tmp 1)), none⟩, 
     ⟨(some 23), (.callF 22 [(.tmp 21), (.tmp 22)]), none⟩, 
     ⟨(some 20), (.mv (.tmp 23)), none⟩, 
     ⟨(some 24), (.extract (.tmp 20) 0), none⟩, 
     ⟨(some 25), (.extract (.tmp 20) 1), none⟩, 
     ⟨(some 26), (.extract (.tmp 20) 2), none⟩, 
     ⟨(some 7), (.mv (.tmp 24)), none⟩, 
     ⟨(some 8), (.mv (.tmp 25)), none⟩, 
     ⟨(some 9), (.mv (.tmp 26)), none⟩])
    (.seq (.ops [
      ⟨(some 28), (.mv (.tmp 0)), none⟩, 
      ⟨(some 29), (.mv (.tmp 1)), none⟩, 
      ⟨(some 30), (.callF 23 [(.tmp 28), (.tmp 29)]), none⟩, 
      ⟨(some 27), (.mv (.tmp 30)), none⟩, 
      ⟨(some 31), (.extract (.tmp 27) 0), none⟩, 
      ⟨(some 32), (.extract (.tmp 27) 1), none⟩, 
      ⟨(some 33), (.extract (.tmp 27) 2), none⟩, 
      ⟨(some 10), (.mv (.tmp 31)), none⟩, 
      ⟨(some 11), (.mv (.tmp 32)), none⟩, 
      ⟨(some 12), (.mv (.tmp 33)), none⟩])
     (.seq (.ops [
       ⟨(some 34), (.mv (.tmp 6)), none⟩, 
       ⟨(some 35), (.mv (.tmp 0)), none⟩, 
       ⟨(some 36), (.callF 24 [(.tmp 35)]), none⟩, 
       ⟨(some 37), (.callF 12 [(.tmp 34), (.tmp 36)]), none⟩, 
       ⟨(some 38), (.mv (.tmp 37)), none⟩, 
       ⟨(some 39), (.mv (.tmp 5)), (some (38, true))⟩, 
       ⟨(some 40), (.callF 25 [(.tmp 39)]), (some (38, true))⟩, 
       ⟨(some 41), (.mv (.tmp 0)), (some (38, true))⟩, 
       ⟨(some 42), (.callF 26 [(.tmp 41)]), (some (38, true))⟩, 
       ⟨(some 43), (.bin .eql (.tmp 40) (.tmp 42)), (some (38, true))⟩, 
       ⟨(some 44), (.pick (.tmp 38) (.tmp 43) (.const (.bool false))), none⟩, 
       ⟨(some 45), (.mv (.tmp 44)), none⟩, 
       ⟨(some 46), (.mv (.tmp 7)), (some (45, true))⟩, 
       ⟨(some 47), (.mv (.tmp 10)), (some (45, true))⟩, 
       ⟨(some 48), (.callF 12 [(.tmp 46), (.tmp 47)]), (some (45, true))⟩, 
       ⟨(some 49), (.pick (.tmp 45) (.tmp 48) (.const (.bool false))), none⟩, 
       ⟨(some 50), (.mv (.tmp 49)), none⟩, 
       ⟨(some 51), (.mv (.tmp 8)), (some (50, true))⟩, 
       ⟨(some 52), (.mv (.tmp 11)), (some (50, true))⟩, 
       ⟨(some 53), (.bin .eql (.tmp 51) (.tmp 52)), (some (50, true))⟩, 
       ⟨(some 54), (.pick (.tmp 50) (.tmp 53) (.const (.bool false))), none⟩, 
       ⟨(some 55), (.mv (.tmp 54)), none⟩, 
       ⟨(some 56), (.mv (.tmp 9)), (some (55, true))⟩, 
       ⟨(some 57), (.mv (.tmp 12)), (some (55, true))⟩, 
       ⟨(some 58), (.bin .eql (.tmp 56) (.tmp 57)), (some (55, true))⟩, 
       ⟨(some 59), (.pick (.tmp 55) (.tmp 58) (.const (.bool false))), none⟩, 
       ⟨(some 13), (.mv (.tmp 59)), none⟩])
      (.seq (.seq (.ops [
         ⟨(some 60), (.mv (.tmp 6)), none⟩, 
         ⟨(some 61), (.lenSl (.tmp 60)), none⟩, 
         ⟨(some 62), (.mv (.const (.int .i64 0))), none⟩])
        (.block 0
         (.loop
          (.seq (.ops [
            ⟨(some 63), (.bin .lss (.tmp 62) (.tmp 61)), none⟩])
           (.seq (.cond (.tmp 63)
             .skip
             (.exit 0))
            (.seq (.block 1
              (.seq (.ops [
                ⟨(some 64), (.mv (.tmp 62)), none⟩, 
                ⟨(some 14), (.mv (.tmp 64)), none⟩])
               (.ops [
                ⟨(some 65), (.mv (.tmp 6)), none⟩, 
                ⟨(some 66), (.mv (.tmp 14)), none⟩, 
                ⟨(some 67), (.idxSl 1 (.tmp 65) (.tmp 66)), none⟩, 
                ⟨(some 68), (.load1 (.tmp 67)), none⟩, 
                ⟨(some 69), (.bin .add (.tmp 68) (.const (.int .u8 1))), none⟩, 
                ⟨(some 70), (.idxSl 1 (.tmp 65) (.tmp 66)), none⟩, 
                ⟨none, (.store1 (.tmp 70) (.tmp 69)), none⟩])))
             (.ops [
              ⟨(some 71), (.bin .add (.tmp 62) (.const (.int .i64 1))), none⟩, 
              ⟨(some 62), (.mv (.tmp 71)), none⟩])))))))
       (.seq (.seq (.ops [
          ⟨(some 72), (.mv (.tmp 7)), none⟩, 
          ⟨(some 73), (.lenSl (.tmp 72)), none⟩, 
          ⟨(some 74), (.mv (.const (.int .i64 0))), none⟩])
         (.block 2
          (.loop
           (.seq (.ops [
             ⟨(some 75), (.bin .lss (.tmp 74) (.tmp 73)), none⟩])
            (.seq (.cond (.tmp 75)
              .skip
              (.exit 2))
             (.seq (.block 3
               (.seq (.ops [
                 ⟨(some 76), (.mv (.tmp 74)), none⟩, 
                 ⟨(some 15), (.mv (.tmp 76)), none⟩])
                (.ops [
                 ⟨(some 77), (.mv (.tmp 7)), none⟩, 
                 ⟨(some 78), (.mv (.tmp 15)), none⟩, 
                 ⟨(some 79), (.idxSl 1 (.tmp 77) (.tmp 78)), none⟩, 
                 ⟨(some 80), (.load1 (.tmp 79)), none⟩, 
                 ⟨(some 81), (.bin .add (.tmp 80) (.const (.int .u8 1))), none⟩, 
                 ⟨(some 82), (.idxSl 1 (.tmp 77) (.tmp 78)), none⟩, 
                 ⟨none, (.store1 (.tmp 82) (.tmp 81)), none⟩])))
              (.ops [
               ⟨(some 83), (.bin .add (.tmp 74) (.const (.int .i64 1))), none⟩, 
               ⟨(some 74), (.mv (.tmp 83)), none⟩])))))))
        (.seq (.ops [
          ⟨(some 84), (.callF 10 []), none⟩, 
          ⟨(some 85), (.mv (.tmp 84)), none⟩, 
          ⟨(some 86), (.callF 20 []), (some (85, true))⟩, 
          ⟨(some 87), (.pick (.tmp 85) (.tmp 86) (.const (.bool false))), none⟩, 
          ⟨(some 88), (.mv (.tmp 87)), none⟩, 
          ⟨(some 89), (.mv (.tmp 13)), (some (88, true))⟩, 
          ⟨(some 90), (.pick (.tmp 88) (.tmp 89) (.const (.bool false))), none⟩, 
          ⟨(some 91), (.mv (.tmp 90)), none⟩, 
          ⟨(some 92), (.mv (.tmp 5)), (some (91, true))⟩, 
          ⟨(some 93), (.mv (.tmp 0)), (some (91, true))⟩, 
          ⟨(some 94), (.callF 12 [(.tmp 92), (.tmp 93)]), (some (91, true))⟩, 
          ⟨(some 95), (.pick (.tmp 91) (.tmp 94) (.const (.bool false))), none⟩, 
          ⟨(some 4), (.mv (.tmp 95)), none⟩])
         .ret)))))))))
theorem c7 {args : Array Value} {h : Heap} {R : Ending → Heap → Prop} (ha : args.size ≤ 96) (hh : aexec Try.prog ac7 (abody [(.slot 4)] R) ⟨initFr args.toList, []⟩ h) : HCalls Try.prog 7 args h R :=
  hcalls_of Try.func7 rfl rfl (by kernel_rfl) (by kernel_rfl) ha hh
/-- 8: credenza/credenzalaw02.OctetsBack -/
def ac8 : ACode :=
 (.seq (.ops [
  ⟨(some 8), (.mv (.const (.bool false))), none⟩])
 (.seq (.ops [
   ⟨(some 19), (.callF 10 []), none⟩, 
   ⟨(some 20), (.mv (.tmp 19)), none⟩, 
   ⟨(some 21), (.callF 20 []), (some (20, true))⟩, 
   ⟨(some 22), (.pick (.tmp 20) (.tmp 21) (.const (.bool false))), none⟩, 
   ⟨(some 9), (.mv (.tmp 22)), none⟩])
  (.seq (.ops [
    ⟨(some 24), (.mv (.tmp 0)), none⟩, 
    ⟨(some 25), (.callF 11 [(.tmp 24)]), none⟩, 
    ⟨(some 26), (.mv (.tmp 3)), none⟩, 
    ⟨(some 27), (.append 5 1 1 [(.int .u8 0)] (.tmp 25) (.tmp 26)), none⟩, 
    ⟨(some 28), (.callF 16 [(.tmp 27)]), none⟩, 
    ⟨(some 23), (.mv (.tmp 28)), none⟩, 
    ⟨(some 29), (.extract (.tmp 23) 0), none⟩, 
    ⟨(some 30), (.extract (.tmp 23) 1), none⟩, 
    ⟨(some 31), (.extract (.tmp 23) 2), none⟩, 
    ⟨(some 10), (.mv (.tmp 29)), none⟩, 
    ⟨(some 11), (.mv (.tmp 30)), none⟩, 
    ⟨(some 12), (.mv (.tmp 31)), none⟩])
   (.seq (.ops [
     ⟨(some 33), (.mv (.tmp 1)), none⟩, 
     ⟨(some 34), (.callF 14 [(.tmp 33)]), none⟩, 
     ⟨(some 35), (.mv (.tmp 3)), none⟩, 
     ⟨(some 36), (.append 5 1 1 [(.int .u8 0)] (.tmp 34) (.tmp 35)), none⟩, 
     ⟨(some 37), (.mv (.tmp 1)), none⟩, 
     ⟨(some 38), (.lenStr (.tmp 37)), none⟩, 
     ⟨(some 39), (.callF 18 [(.tmp 36), (.tmp 38)]), none⟩, 
     ⟨(some 32), (.mv (.tmp 39)), none⟩, 
     ⟨(some 40), (.extract (.tmp 32) 0), none⟩, 
     ⟨(some 41), (.extract (.tmp 32) 1), none⟩, 
     ⟨(some 42), (.extract (.tmp 32) 2), none⟩, 
     ⟨(some 13), (.mv (.tmp 40)), none⟩, 
     ⟨(some 14), (.mv (.tmp 41)), none⟩, 
     ⟨(some 15), (.mv (.tmp 42)), none⟩])
    (.seq (.ops [
      ⟨(some 44), (.mv (.tmp 2)), none⟩, 
      ⟨(some 45), (.callF 21 [(.tmp 44)]), none⟩, 
      ⟨(some 46), (.mv (.tmp 3)), none⟩, 
      ⟨(some 47), (.append 5 1 1 [(.int .u8 0)] (.tmp 45) (.tmp 46)), none⟩, 
      ⟨(some 48), (.mv (.tmp 2)), none⟩, 
      ⟨(some 49), (.lenSl (.tmp 48)), none⟩, 
      ⟨(some 50), (.callF 22 [(.tmp 47), (.tmp 49)]), none⟩, 
      ⟨(some 43), (.mv (.tmp 50)), none⟩, 
      ⟨(some 51), (.extract (.tmp 43) 0), none⟩, 
      ⟨(some 52), (.extract (.tmp 43) 1), none⟩, 
      ⟨(some 53), (.extract (.tmp 43) 2), none⟩, 
      ⟨(some 16), (.mv (.tmp 51)), none⟩, 
      ⟨(some 17), (.mv (.tmp 52)), none⟩, 
      ⟨(some 18), (.mv (.tmp 53)), none⟩])
     (.seq (.ops [
       ⟨(some 54), (.mv (.tmp 9)), none⟩, 
       ⟨(some 55), (.mv (.tmp 54)), none⟩, 
       ⟨(some 56), (.mv (.tmp 12)), (some (55, true))⟩, 
       ⟨(some 57), (.bin .eql (.tmp 56) (.const (.int .i64 0))), (some (55, true))⟩, 
       ⟨(some 58), (.pick (.tmp 55) (.tmp 57) (.const (.bool false))), none⟩, 
       ⟨(some 59), (.mv (.tmp 58)), none⟩, 
       ⟨(some 60), (.mv (.tmp 10)), (some (59, true))⟩, 
       ⟨(some 61), (.mv (.tmp 0)), (some (59, true))⟩, 
       ⟨(some 62), (.bin .eql (.tmp 60) (.tmp 61)), (some (59, true))⟩, 
       ⟨(some 63), (.pick (.tmp 59) (.tmp 62) (.const (.bool false))), none⟩, 
       ⟨(some 64), (.mv (.tmp 63)), none⟩, 
       ⟨(some 65), (.mv (.tmp 11)), (some (64, true))⟩, 
       ⟨(some 66), (.mv (.tmp 0)), (some (64, true))⟩, 
       ⟨(some 67), (.callF 11 [(.tmp 66)]), (some (64, true))⟩, 
       ⟨(some 68), (.lenSl (.tmp 67)), (some (64, true))⟩, 
       ⟨(some 69), (.bin .eql (.tmp 65) (.tmp 68)), (some (64, true))⟩, 
       ⟨(some 70), (.pick (.tmp 64) (.tmp 69) (.const (.bool false))), none⟩, 
       ⟨(some 71), (.mv (.tmp 70)), none⟩, 
       ⟨(some 72), (.mv (.tmp 15)), (some (71, true))⟩, 
       ⟨(some 73), (.bin .eql (.tmp 72) (.const (.int .i64 0))), (some (71, true))⟩, 
       ⟨(some 74), (.pick (.tmp 71) (.tmp 73) (.const (.bool false))), none⟩, 
       ⟨(some 75), (.mv (.tmp 74)), none⟩, 
       ⟨(some 76), (.mv (.tmp 13)), (some (75, true))⟩, 
       ⟨(some 77), (.mv (.tmp 1)), (some (75, true))⟩, 
       ⟨(some 78), (.bin .eql (.tmp 76) (.tmp 77)), (some (75, true))⟩, 
       ⟨(some 79), (.pick (.tmp 75) (.tmp 78) (.const (.bool false))), none⟩, 
       ⟨(some 80), (.mv (.tmp 79)), none⟩, 
       ⟨(some 81), (.mv (.tmp 14)), (some (80, true))⟩, 
       ⟨(some 82), (.mv (.tmp 1)), (some (80, true))⟩, 
       ⟨(some 83), (.callF 14 [(.tmp 82)]), (some (80, true))⟩, 
       ⟨(some 84), (.lenSl (.tmp 83)), (some (80, true))⟩, 
       ⟨(some 85), (.bin .eql (.tmp 81) (.tmp 84)), (some (80, true))⟩, 
       ⟨(some 86), (.pick (.tmp 80) (.tmp 85) (.const (.bool false))), none⟩, 
       ⟨(some 87), (.mv (.tmp 86)), none⟩, 
       ⟨(some 88), (.mv (.tmp 18)), (some (87, true))⟩, 
       ⟨(some 89), (.bin .eql (.tmp 88) (.const (.int .i64 0))), (some (87, true))⟩, 
       ⟨(some 90), (.pick (.tmp 87) (.tmp 89) (.const (.bool false))), none⟩, 
       ⟨(some 91), (.mv (.tmp 90)), none⟩, 
       ⟨(some 92), (.mv (.tmp 16)), (some (91, true))⟩, 
       ⟨(some 93), (.mv (.tmp 2)), (some (91, true))⟩, 
       ⟨(some 94), (.callF 12 [(.tmp 92), (.tmp 93)]), (some (91, true))⟩, 
       ⟨(some 95), (.pick (.tmp 91) (.tmp 94) (.const (.bool false))), none⟩, 
       ⟨(some 96), (.mv (.tmp 95)), none⟩, 
       ⟨(some 97), (.mv (.tmp 17)), (some (96, true))⟩, 
       ⟨(some 98), (.mv (.tmp 2)), (some (96, true))⟩, 
       ⟨(some 99), (.callF 21 [(.tmp 98)]), (some (96, true))⟩, 
       ⟨(some 100), (.lenSl (.tmp 99)), (some (96, true))⟩, 
       ⟨(some 101), (.bin .eql (.tmp 97) (.tmp 100)), (some (96, true))⟩, 
       ⟨(some 102), (.pick (.tmp 96) (.tmp 101) (.const (.bool false))), none⟩, 
       ⟨(some 8), (.mv (.tmp 102)), none⟩])
      .ret))))))
theorem c8 {args : Array Value} {h : Heap} {R : Ending → Heap → Prop} (ha : args.size ≤ 103) (hh : aexec Try.prog ac8 (abody [(.slot 8)] R) ⟨initFr args.toList, []⟩ h) : HCalls Try.prog 8 args h R :=
  hcalls_of Try.func8 rfl rfl (by kernel_rfl) (by kernel_rfl) ha hh
/-- 9: credenza/credenzalaw02.OctetsCut -/
def ac9 : ACode :=
 (.seq (.ops [
  ⟨(some 8), (.mv (.const (.bool false))), none⟩])
 (.seq (.ops [
   ⟨(some 22), (.callF 10 []), none⟩, 
   ⟨(some 23), (.mv (.tmp 22)), none⟩, 
   ⟨(some 24), (.callF 20 []), (some (23, true))⟩, 
   ⟨(some 25), (.pick (.tmp 23) (.tmp 24) (.const (.bool false))), none⟩, 
   ⟨(some 9), (.mv (.tmp 25)), none⟩])
  (.seq (.ops [
    ⟨(some 26), (.mv (.tmp 0)), none⟩, 
    ⟨(some 27), (.callF 11 [(.tmp 26)]), none⟩, 
    ⟨(some 10), (.mv (.tmp 27)), none⟩])
   (.seq (.ops [
     ⟨(some 28), (.mv (.tmp 1)), none⟩, 
     ⟨(some 29), (.callF 14 [(.tmp 28)]), none⟩, 
     ⟨(some 11), (.mv (.tmp 29)), none⟩])
    (.seq (.ops [
      ⟨(some 30), (.mv (.tmp 2)), none⟩, 
      ⟨(some 31), (.callF 21 [(.tmp 30)]), none⟩, 
      ⟨(some 12), (.mv (.tmp 31)), none⟩])
     (.seq (.seq (.ops [
        ⟨(some 32), (.mv (.tmp 10)), none⟩, 
        ⟨(some 33), (.lenSl (.tmp 32)), none⟩, 
        ⟨(some 34), (.bin .eql (.tmp 33) (.const (.int .i64 0))), none⟩, 
        ⟨(some 35), (.mv (.tmp 34)), none⟩, 
        ⟨(some 36), (.mv (.tmp 11)), (some (35, false))⟩, 
        ⟨(some 37), (.lenSl (.tmp 36)), (some (35, false))⟩, 
        ⟨(some 38), (.bin .eql (.tmp 37) (.const (.int .i64 0))), (some (35, false))⟩, 
        ⟨(some 39), (.pick (.tmp 35) (.const (.bool true)) (.tmp 38)), none⟩, 
        ⟨(some 40), (.mv (.tmp 39)), none⟩, 
        ⟨(some 41), (.mv (.tmp 12)), (some (40, false))⟩, 
        ⟨(some 42), (.lenSl (.tmp 41)), (some (40, false))⟩, 
        ⟨(some 43), (.bin .eql (.tmp 42) (.const (.int .i64 0))), (some (40, false))⟩, 
        ⟨(some 44), (.pick (.tmp 40) (.const (.bool true)) (.tmp 43)), none⟩])
       (.cond (.tmp 44)
        (.seq (.ops [
          ⟨(some 8), (.mv (.const (.bool false))), none⟩])
         .ret)
        .skip))
      (.seq (.ops [
        ⟨(some 45), (.mv (.tmp 3)), none⟩, 
        ⟨(some 46), (.minmax true (.tmp 45) [(.const (.int .i64 0))]), none⟩, 
        ⟨(some 3), (.mv (.tmp 46)), none⟩])
       (.seq (.ops [
         ⟨(some 48), (.mv (.tmp 10)), none⟩, 
         ⟨(some 49), (.mv (.tmp 3)), none⟩, 
         ⟨(some 50), (.mv (.tmp 10)), none⟩, 
         ⟨(some 51), (.lenSl (.tmp 50)), none⟩, 
         ⟨(some 52), (.bin .rem (.tmp 49) (.tmp 51)), none⟩, 
         ⟨(some 53), (.sliceSl 1 (.tmp 48) none (some (.tmp 52)) none), none⟩, 
         ⟨(some 54), (.callF 16 [(.tmp 53)]), none⟩, 
         ⟨(some 47), (.mv (.tmp 54)), none⟩, 
         ⟨(some 55), (.extract (.tmp 47) 0), none⟩, 
         ⟨(some 56), (.extract (.tmp 47) 1), none⟩, 
         ⟨(some 57), (.extract (.tmp 47) 2), none⟩, 
         ⟨(some 13), (.mv (.tmp 55)), none⟩, 
         ⟨(some 14), (.mv (.tmp 56)), none⟩, 
         ⟨(some 15), (.mv (.tmp 57)), none⟩])
        (.seq (.ops [
          ⟨(some 59), (.mv (.tmp 11)), none⟩, 
          ⟨(some 60), (.mv (.tmp 3)), none⟩, 
          ⟨(some 61), (.mv (.tmp 11)), none⟩, 
          ⟨(some 62), (.lenSl (.tmp 61)), none⟩, 
          ⟨(some 63), (.bin .rem (.tmp 60) (.tmp 62)), none⟩, 
          ⟨(some 64), (.sliceSl 1 (.tmp 59) none (some (.tmp 63)) none), none⟩, 
          ⟨(some 65), (.mv (.tmp 1)), none⟩, 
          ⟨(some 66), (.lenStr (.tmp 65)), none⟩, 
          ⟨(some 67), (.callF 18 [(.tmp 64), (.tmp 66)]), none⟩, 
          ⟨(some 58), (.mv (.tmp 67)), none⟩, 
          ⟨(some 68), (.extract (.tmp 58) 0), none⟩, 
          ⟨(some 69), (.extract (.tmp 58) 1), none⟩, 
          ⟨(some 70), (.extract (.tmp 58) 2), none⟩, 
          ⟨(some 16), (.mv (.tmp 68)), none⟩, 
          ⟨(some 17), (.mv (.tmp 69)), none⟩, 
          ⟨(some 18), (.mv (.tmp 70)), none⟩])
         (.seq (.ops [
           ⟨(some 72), (.mv (.tmp 12)), none⟩, 
           ⟨(some 73), (.mv (.tmp 3)), none⟩, 
           ⟨(some 74), (.mv (.tmp 12)), none⟩, 
           ⟨(some 75), (.lenSl (.tmp 74)), none⟩, 
           ⟨(some 76), (.bin .rem (.tmp 73) (.tmp 75)), none⟩, 
           ⟨(some 77), (.sliceSl 1 (.tmp 72) none (some (.tmp 76)) none), none⟩, 
           ⟨(some 78), (.mv (.tmp 2)), none⟩, 
           ⟨(some 79), (.lenSl (.tmp 78)), none⟩, 
           ⟨(some 80), (.callF 22 [(.tmp 77), (.tmp 79)]), none⟩, 
           ⟨(some 71), (.mv (.tmp 80)), none⟩, 
           ⟨(some 81), (.extract (.tmp 71) 0), none⟩, 
           ⟨(some 82), (.extract (.tmp 71) 1), none⟩, 
           ⟨(some 83), (.extract (.tmp 71) 2), none⟩, 
           ⟨(some 19), (.mv (.tmp 81)), none⟩, 
           ⟨(some 20), (.mv (.tmp 82)), none⟩, 
           ⟨(some 21), (.mv (.tmp 83)), none⟩])
          (.seq (.ops [
            ⟨(some 84), (.mv (.tmp 9)), none⟩, 
            ⟨(some 85), (.mv (.tmp 84)), none⟩, 
            ⟨(some 86), (.mv (.tmp 15)), (some (85, true))⟩, 
            ⟨(some 87), (.bin .eql (.tmp 86) (.const (.int .i64 20))), (some (85, true))⟩, 
            ⟨(some 88), (.pick (.tmp 85) (.tmp 87) (.const (.bool false))), none⟩, 
            ⟨(some 89), (.mv (.tmp 88)), none⟩, 
            ⟨(some 90), (.mv (.tmp 18)), (some (89, true))⟩, 
            ⟨(some 91), (.bin .eql (.tmp 90) (.const (.int .i64 20))), (some (89, true))⟩, 
            ⟨(some 92), (.pick (.tmp 89) (.tmp 91) (.const (.bool false))), none⟩, 
            ⟨(some 93), (.mv (.tmp 92)), none⟩, 
            ⟨(some 94), (.mv (.tmp 21)), (some (93, true))⟩, 
            ⟨(some 95), (.bin .eql (.tmp 94) (.const (.int .i64 20))), (some (93, true))⟩, 
            ⟨(some 96), (.pick (.tmp 93) (.tmp 95) (.const (.bool false))), none⟩, 
            ⟨(some 8), (.mv (.tmp 96)), none⟩])
           .ret)))))))))))
theorem c9 {args : Array Value} {h : Heap} {R : Ending → Heap → Prop} (ha : args.size ≤ 97) (hh : aexec Try.prog ac9 (abody [(.slot 8)] R) ⟨initFr args.toList, []⟩ h) : HCalls Try.prog 9 args h R :=
  hcalls_of Try.func9 rfl rfl (by kernel_rfl) (by kernel_rfl) ha hh
/-- 10: credenza/credenzalaw02.live -/
def ac10 : ACode :=
 (.seq (.ops [
  ⟨(some 0), (.mv (.const (.bool false))), none⟩])
 (.seq (.ops [
   ⟨(some 8), (.buildSlice 5 2 [(.int .u8 0), (.int .u8 0)] [(0, 1, (.const (.int .u8 128))), (1, 1, (.const (.int .u8 0)))]), none⟩, 
   ⟨(some 9), (.callF 16 [(.tmp 8)]), none⟩, 
   ⟨(some 7), (.mv (.tmp 9)), none⟩, 
   ⟨(some 10), (.extract (.tmp 7) 0), none⟩, 
   ⟨(some 11), (.extract (.tmp 7) 1), none⟩, 
   ⟨(some 12), (.extract (.tmp 7) 2), none⟩, 
   ⟨(some 1), (.mv (.tmp 10)), none⟩, 
   ⟨(some 2), (.mv (.tmp 11)), none⟩, 
   ⟨(some 3), (.mv (.tmp 12)), none⟩])
  (.seq (.ops [
    ⟨(some 14), (.buildSlice 5 2 [(.int .u8 0), (.int .u8 0)] [(0, 1, (.const (.int .u8 172))), (1, 1, (.const (.int .u8 2)))]), none⟩, 
    ⟨(some 15), (.callF 16 [(.tmp 14)]), none⟩, 
    ⟨(some 13), (.mv (.tmp 15)), none⟩, 
    ⟨(some 16), (.extract (.tmp 13) 0), none⟩, 
    ⟨(some 17), (.extract (.tmp 13) 1), none⟩, 
    ⟨(some 18), (.extract (.tmp 13) 2), none⟩, 
    ⟨(some 4), (.mv (.tmp 16)), none⟩, 
    ⟨(some 5), (.mv (.tmp 17)), none⟩, 
    ⟨(some 6), (.mv (.tmp 18)), none⟩])
   (.seq (.ops [
     ⟨(some 19), (.callF 11 [(.const (.int .u64 300))]), none⟩, 
     ⟨(some 20), (.buildSlice 5 2 [(.int .u8 0), (.int .u8 0)] [(0, 1, (.const (.int .u8 172))), (1, 1, (.const (.int .u8 2)))]), none⟩, 
     ⟨(some 21), (.callF 12 [(.tmp 19), (.tmp 20)]), none⟩, 
     ⟨(some 22), (.mv (.tmp 21)), none⟩, 
     ⟨(some 23), (.mv (.tmp 3)), (some (22, true))⟩, 
     ⟨(some 24), (.bin .eql (.tmp 23) (.const (.int .i64 22))), (some (22, true))⟩, 
     ⟨(some 25), (.pick (.tmp 22) (.tmp 24) (.const (.bool false))), none⟩, 
     ⟨(some 26), (.mv (.tmp 25)), none⟩, 
     ⟨(some 27), (.mv (.tmp 4)), (some (26, true))⟩, 
     ⟨(some 28), (.bin .eql (.tmp 27) (.const (.int .u64 300))), (some (26, true))⟩, 
     ⟨(some 29), (.pick (.tmp 26) (.tmp 28) (.const (.bool false))), none⟩, 
     ⟨(some 30), (.mv (.tmp 29)), none⟩, 
     ⟨(some 31), (.mv (.tmp 5)), (some (30, true))⟩, 
     ⟨(some 32), (.bin .eql (.tmp 31) (.const (.int .i64 2))), (some (30, true))⟩, 
     ⟨(some 33), (.pick (.tmp 30) (.tmp 32) (.const (.bool false))), none⟩, 
     ⟨(some 34), (.mv (.tmp 33)), none⟩, 
     ⟨(some 35), (.mv (.tmp 6)), (some (34, true))⟩, 
     ⟨(some 36), (.bin .eql (.tmp 35) (.const (.int .i64 0))), (some (34, true))⟩, 
     ⟨(some 37), (.pick (.tmp 34) (.tmp 36) (.const (.bool false))), none⟩, 
     ⟨(some 0), (.mv (.tmp 37)), none⟩])
    .ret))))
theorem c10 {args : Array Value} {h : Heap} {R : Ending → Heap → Prop} (ha : args.size ≤ 38) (hh : aexec Try.prog ac10 (abody [(.slot 0)] R) ⟨initFr args.toList, []⟩ h) : HCalls Try.prog 10 args h R :=
  hcalls_of Try.func10 rfl rfl (by kernel_rfl) (by kernel_rfl) ha hh
/-- 11: credenza/octets.Num -/
def ac11 : ACode :=
 (.seq (.ops [
  ⟨(some 2), (.mv (.const (.slice none 0 0))), none⟩])
 (.seq (.ops [
   ⟨(some 3), (.mv (.const (.slice none 0 0))), none⟩])
  (.seq (.block 0
    (.loop
     (.seq (.seq (.ops [
        ⟨(some 4), (.mv (.tmp 0)), none⟩, 
        ⟨(some 5), (.bin .gtr (.tmp 4) (.const (.int .u64 127))), none⟩])
       (.cond (.tmp 5)
        .skip
        (.exit 0)))
      (.seq (.block 1
        (.ops [
         ⟨(some 8), (.mv (.tmp 3)), none⟩, 
         ⟨(some 9), (.mv (.tmp 0)), none⟩, 
         ⟨(some 10), (.convInt .u8 (.tmp 9)), none⟩, 
         ⟨(some 11), (.bin .or (.tmp 10) (.const (.int .u8 128))), none⟩, 
         ⟨(some 12), (.buildSlice 5 1 [(.int .u8 0)] [(0, 1, (.tmp 11))]), none⟩, 
         ⟨(some 13), (.append 5 1 1 [(.int .u8 0)] (.tmp 8) (.tmp 12)), none⟩, 
         ⟨(some 3), (.mv (.tmp 13)), none⟩]))
       (.ops [
        ⟨(some 6), (.mv (.tmp 0)), none⟩, 
        ⟨(some 7), (.bin .shr (.tmp 6) (.const (.int .u64 7))), none⟩, 
        ⟨(some 0), (.mv (.tmp 7)), none⟩])))))
   (.seq (.ops [
     ⟨(some 14), (.mv (.tmp 3)), none⟩, 
     ⟨(some 15), (.mv (.tmp 0)), none⟩, 
     ⟨(some 16), (.convInt .u8 (.tmp 15)), none⟩, 
     ⟨(some 17), (.buildSlice 5 1 [(.int .u8 0)] [(0, 1, (.tmp 16))]), none⟩, 
     ⟨(some 18), (.append 5 1 1 [(.int .u8 0)] (.tmp 14) (.tmp 17)), none⟩, 
     ⟨(some 2), (.mv (.tmp 18)), none⟩])
    .ret))))
theorem c11 {args : Array Value} {h : Heap} {R : Ending → Heap → Prop} (ha : args.size ≤ 19) (hh : aexec Try.prog ac11 (abody [(.slot 2)] R) ⟨initFr args.toList, []⟩ h) : HCalls Try.prog 11 args h R :=
  hcalls_of Try.func11 rfl rfl (by kernel_rfl) (by kernel_rfl) ha hh
/-- 12: credenza/credenzaref02.Same -/
def ac12 : ACode :=
 (.seq (.ops [
  ⟨(some 4), (.mv (.const (.bool false))), none⟩])
 (.seq (.ops [
   ⟨(some 5), (.mv (.tmp 0)), none⟩, 
   ⟨(some 6), (.strOfBytes (.tmp 5)), none⟩, 
   ⟨(some 7), (.mv (.tmp 1)), none⟩, 
   ⟨(some 8), (.strOfBytes (.tmp 7)), none⟩, 
   ⟨(some 9), (.bin .eql (.tmp 6) (.tmp 8)), none⟩, 
   ⟨(some 4), (.mv (.tmp 9)), none⟩])
  .ret))
theorem c12 {args : Array Value} {h : Heap} {R : Ending → Heap → Prop} (ha : args.size ≤ 10) (hh : aexec Try.prog ac12 (abody [(.slot 4)] R) ⟨initFr args.toList, []⟩ h) : HCalls Try.prog 12 args h R :=
  hcalls_of Try.func12 rfl rfl (by kernel_rfl) (by kernel_rfl) ha hh
/-- 13: credenza/credenzaref02.Num -/
def ac13 : ACode :=
 (.seq (.ops [
  ⟨(some 2), (.mv (.const (.slice none 0 0))), none⟩])
 (.seq (.seq (.ops [
    ⟨(some 3), (.mv (.tmp 0)), none⟩, 
    ⟨(some 4), (.bin .lss (.tmp 3) (.const (.int .u64 128))), none⟩])
   (.cond (.tmp 4)
    (.seq (.ops [
      ⟨(some 5), (.mv (.tmp 0)), none⟩, 
      ⟨(some 6), (.convInt .u8 (.tmp 5)), none⟩, 
      ⟨(some 7), (.buildSlice 5 1 [(.int .u8 0)] [(0, 1, (.tmp 6))]), none⟩, 
      ⟨(some 2), (.mv (.tmp 7)), none⟩])
     .ret)
    .skip))
  (.seq (.ops [
    ⟨(some 8), (.mv (.tmp 0)), none⟩, 
    ⟨(some 9), (.bin .rem (.tmp 8) (.const (.int .u64 128))), none⟩, 
    ⟨(some 10), (.bin .add (.tmp 9) (.const (.int .u64 128))), none⟩, 
    ⟨(some 11), (.convInt .u8 (.tmp 10)), none⟩, 
    ⟨(some 12), (.buildSlice 5 1 [(.int .u8 0)] [(0, 1, (.tmp 11))]), none⟩, 
    ⟨(some 13), (.mv (.tmp 0)), none⟩, 
    ⟨(some 14), (.bin .quo (.tmp 13) (.const (.int .u64 128))), none⟩, 
    ⟨(some 15), (.callF 13 [(.tmp 14)]), none⟩, 
    ⟨(some 16), (.append 5 1 1 [(.int .u8 0)] (.tmp 12) (.tmp 15)), none⟩, 
    ⟨(some 2), (.mv (.tmp 16)), none⟩])
   .ret)))
theorem c13 {args : Array Value} {h : Heap} {R : Ending → Heap → Prop} (ha : args.size ≤ 17) (hh : aexec Try.prog ac13 (abody [(.slot 2)] R) ⟨initFr args.toList, []⟩ h) : HCalls Try.prog 13 args h R :=
  hcalls_of Try.func13 rfl rfl (by kernel_rfl) (by kernel_rfl) ha hh
/-- 14: credenza/octets.Text -/
def ac14 : ACode :=
 (.seq (.ops [
  ⟨(some 2), (.mv (.const (.slice none 0 0))), none⟩])
 (.seq (.ops [
   ⟨(some 3), (.mv (.tmp 0)), none⟩, 
   ⟨(some 4), (.lenStr (.tmp 3)), none⟩, 
   ⟨(some 5), (.convInt .u64 (.tmp 4)), none⟩, 
   ⟨(some 6), (.callF 11 [(.tmp 5)]), none⟩, 
   ⟨(some 7), (.mv (.tmp 0)), none⟩, 
   ⟨(some 8), (.append 5 1 1 [(.int .u8 0)] (.tmp 6) (.tmp 7)), none⟩, 
   ⟨(some 2), (.mv (.tmp 8)), none⟩])
  .ret))
theorem c14 {args : Array Value} {h : Heap} {R : Ending → Heap → Prop} (ha : args.size ≤ 9) (hh : aexec Try.prog ac14 (abody [(.slot 2)] R) ⟨initFr args.toList, []⟩ h) : HCalls Try.prog 14 args h R :=
  hcalls_of Try.func14 rfl rfl (by kernel_rfl) (by kernel_rfl) ha hh
/-- 15: credenza/credenzaref02.Text -/
def ac15 : ACode :=
 (.seq (.ops [
  ⟨(some 2), (.mv (.const (.slice none 0 0))), none⟩])
 (.seq (.ops [
   ⟨(some 3), (.mv (.tmp 0)), none⟩, 
   ⟨(some 4), (.lenStr (.tmp 3)), none⟩, 
   ⟨(some 5), (.convInt .u64 (.tmp 4)), none⟩, 
   ⟨(some 6), (.callF 13 [(.tmp 5)]), none⟩, 
   ⟨(some 7), (.mv (.tmp 0)), none⟩, 
   ⟨(some 8), (.append 5 1 1 [(.int .u8 0)] (.tmp 6) (.tmp 7)), none⟩, 
   ⟨(some 2), (.mv (.tmp 8)), none⟩])
  .ret))
theorem c15 {args : Array Value} {h : Heap} {R : Ending → Heap → Prop} (ha : args.size ≤ 9) (hh : aexec Try.prog ac15 (abody [(.slot 2)] R) ⟨initFr args.toList, []⟩ h) : HCalls Try.prog 15 args h R :=
  hcalls_of Try.func15 rfl rfl (by kernel_rfl) (by kernel_rfl) ha hh
/-- 16: credenza/octets.ReadNum -/
def ac16 : ACode :=
 (.seq (.ops [
  ⟨(some 2), (.mv (.const (.int .u64 0))), none⟩, 
  ⟨(some 3), (.mv (.const (.int .i64 0))), none⟩, 
  ⟨(some 4), (.mv (.const (.int .i64 0))), none⟩])
 (.seq (.ops [
   ⟨(some 5), (.mv (.const (.int .u64 0))), none⟩, 
   ⟨(some 6), (.mv (.const (.int .u64 0))), none⟩])
  (.seq (.seq (.ops [
     ⟨(some 9), (.mv (.tmp 0)), none⟩, 
     ⟨(some 10), (.lenSl (.tmp 9)), none⟩, 
     ⟨(some 11), (.mv (.const (.int .i64 0))), none⟩])
    (.block 0
     (.loop
      (.seq (.ops [
        ⟨(some 12), (.bin .lss (.tmp 11) (.tmp 10)), none⟩])
       (.seq (.cond (.tmp 12)
         .skip
         (.exit 0))
        (.seq (.block 1
          (.seq (.ops [
            ⟨(some 13), (.mv (.tmp 11)), none⟩, 
            ⟨(some 14), (.idxSl 1 (.tmp 9) (.tmp 11)), none⟩, 
            ⟨(some 15), (.load1 (.tmp 14)), none⟩, 
            ⟨(some 7), (.mv (.tmp 13)), none⟩, 
            ⟨(some 8), (.mv (.tmp 15)), none⟩])
           (.seq (.block 2
             (.seq (.seq (.ops [
                ⟨(some 17), (.mv (.tmp 7)), none⟩, 
                ⟨(some 18), (.bin .eql (.tmp 17) (.const (.int .i64 9))), none⟩, 
                ⟨(some 19), (.mv (.tmp 18)), none⟩, 
                ⟨(some 20), (.mv (.tmp 8)), (some (19, true))⟩, 
                ⟨(some 21), (.bin .gtr (.tmp 20) (.const (.int .u8 1))), (some (19, true))⟩, 
                ⟨(some 22), (.pick (.tmp 19) (.tmp 21) (.const (.bool false))), none⟩, 
                ⟨(some 16), (.mv (.tmp 22)), none⟩])
               (.cond (.tmp 16)
                .skip
                (.ops [
                 ⟨(some 23), (.mv (.tmp 7)), none⟩, 
                 ⟨(some 24), (.bin .gtr (.tmp 23) (.const (.int .i64 0))), none⟩, 
                 ⟨(some 25), (.mv (.tmp 24)), none⟩, 
                 ⟨(some 26), (.mv (.tmp 8)), (some (25, true))⟩, 
                 ⟨(some 27), (.bin .eql (.tmp 26) (.const (.int .u8 0))), (some (25, true))⟩, 
                 ⟨(some 28), (.pick (.tmp 25) (.tmp 27) (.const (.bool false))), none⟩, 
                 ⟨(some 16), (.mv (.tmp 28)), none⟩])))
              (.cond (.tmp 16)
               (.seq (.ops [
                 ⟨(some 2), (.mv (.const (.int .u64 0))), none⟩, 
                 ⟨(some 3), (.mv (.const (.int .i64 0))), none⟩, 
                 ⟨(some 4), (.mv (.const (.int .i64 22))), none⟩])
                .ret)
               .skip)))
            (.seq (.ops [
              ⟨(some 29), (.mv (.tmp 5)), none⟩, 
              ⟨(some 30), (.mv (.tmp 8)), none⟩, 
              ⟨(some 31), (.bin .and (.tmp 30) (.const (.int .u8 127))), none⟩, 
              ⟨(some 32), (.convInt .u64 (.tmp 31)), none⟩, 
              ⟨(some 33), (.mv (.tmp 6)), none⟩, 
              ⟨(some 34), (.bin .shl (.tmp 32) (.tmp 33)), none⟩, 
              ⟨(some 35), (.bin .or (.tmp 29) (.tmp 34)), none⟩, 
              ⟨(some 5), (.mv (.tmp 35)), none⟩])
             (.seq (.ops [
               ⟨(some 36), (.mv (.tmp 6)), none⟩, 
               ⟨(some 37), (.bin .add (.tmp 36) (.const (.int .u64 7))), none⟩, 
               ⟨(some 6), (.mv (.tmp 37)), none⟩])
              (.seq (.ops [
                ⟨(some 38), (.mv (.tmp 8)), none⟩, 
                ⟨(some 39), (.bin .lss (.tmp 38) (.const (.int .u8 128))), none⟩])
               (.cond (.tmp 39)
                (.seq (.ops [
                  ⟨(some 40), (.mv (.tmp 5)), none⟩, 
                  ⟨(some 41), (.mv (.tmp 7)), none⟩, 
                  ⟨(some 42), (.bin .add (.tmp 41) (.const (.int .i64 1))), none⟩, 
                  ⟨(some 2), (.mv (.tmp 40)), none⟩, 
                  ⟨(some 3), (.mv (.tmp 42)), none⟩, 
                  ⟨(some 4), (.mv (.const (.int .i64 0))), none⟩])
                 .ret)
                .skip)))))))
         (.ops [
          ⟨(some 43), (.bin .add (.tmp 11) (.const (.int .i64 1))), none⟩, 
          ⟨(some 11), (.mv (.tmp 43)), none⟩])))))))
   (.seq (.ops [
     ⟨(some 2), (.mv (.const (.int .u64 0))), none⟩, 
     ⟨(some 3), (.mv (.const (.int .i64 0))), none⟩, 
     ⟨(some 4), (.mv (.const (.int .i64 20))), none⟩])
    .ret))))
theorem c16 {args : Array Value} {h : Heap} {R : Ending → Heap → Prop} (ha : args.size ≤ 44) (hh : aexec Try.prog ac16 (abody [(.slot 2), (.slot 3), (.slot 4)] R) ⟨initFr args.toList, []⟩ h) : HCalls Try.prog 16 args h R :=
  hcalls_of Try.func16 rfl rfl (by kernel_rfl) (by kernel_rfl) ha hh
/-- 17: credenza/credenzaref02.ReadNum -/
def ac17 : ACode :=
 (.seq (.ops [
  ⟨(some 2), (.mv (.const (.int .u64 0))), none⟩, 
  ⟨(some 3), (.mv (.const (.int .i64 0))), none⟩, 
  ⟨(some 4), (.mv (.const (.int .i64 0))), none⟩])
 (.seq (.ops [
   ⟨(some 5), (.mv (.const (.int .u64 0))), none⟩])
  (.seq (.seq (.ops [
     ⟨(some 6), (.mv (.const (.int .i64 0))), none⟩])
    (.block 0
     (.loop
      (.seq (.seq (.ops [
         ⟨(some 7), (.mv (.tmp 6)), none⟩, 
         ⟨(some 8), (.bin .lss (.tmp 7) (.const (.int .i64 10))), none⟩])
        (.cond (.tmp 8)
         .skip
         (.exit 0)))
       (.seq (.block 1
         (.seq (.seq (.ops [
            ⟨(some 11), (.mv (.tmp 6)), none⟩, 
            ⟨(some 12), (.mv (.tmp 0)), none⟩, 
            ⟨(some 13), (.lenSl (.tmp 12)), none⟩, 
            ⟨(some 14), (.bin .geq (.tmp 11) (.tmp 13)), none⟩])
           (.cond (.tmp 14)
            (.seq (.ops [
              ⟨(some 2), (.mv (.const (.int .u64 0))), none⟩, 
              ⟨(some 3), (.mv (.const (.int .i64 0))), none⟩, 
              ⟨(some 4), (.mv (.const (.int .i64 20))), none⟩])
             .ret)
            .skip))
          (.seq (.seq (.ops [
             ⟨(some 15), (.mv (.tmp 6)), none⟩, 
             ⟨(some 16), (.bin .eql (.tmp 15) (.const (.int .i64 9))), none⟩, 
             ⟨(some 17), (.mv (.tmp 16)), none⟩, 
             ⟨(some 18), (.mv (.tmp 0)), (some (17, true))⟩, 
             ⟨(some 19), (.mv (.tmp 6)), (some (17, true))⟩, 
             ⟨(some 20), (.idxSl 1 (.tmp 18) (.tmp 19)), (some (17, true))⟩, 
             ⟨(some 21), (.load1 (.tmp 20)), (some (17, true))⟩, 
             ⟨(some 22), (.bin .gtr (.tmp 21) (.const (.int .u8 1))), (some (17, true))⟩, 
             ⟨(some 23), (.pick (.tmp 17) (.tmp 22) (.const (.bool false))), none⟩])
            (.cond (.tmp 23)
             (.seq (.ops [
               ⟨(some 2), (.mv (.const (.int .u64 0))), none⟩, 
               ⟨(some 3), (.mv (.const (.int .i64 0))), none⟩, 
               ⟨(some 4), (.mv (.const (.int .i64 22))), none⟩])
              .ret)
             .skip))
           (.seq (.ops [
             ⟨(some 24), (.mv (.tmp 5)), none⟩, 
             ⟨(some 25), (.mv (.tmp 0)), none⟩, 
             ⟨(some 26), (.mv (.tmp 6)), none⟩, 
             ⟨(some 27), (.idxSl 1 (.tmp 25) (.tmp 26)), none⟩, 
             ⟨(some 28), (.load1 (.tmp 27)), none⟩, 
             ⟨(some 29), (.bin .rem (.tmp 28) (.const (.int .u8 128))), none⟩, 
             ⟨(some 30), (.convInt .u64 (.tmp 29)), none⟩, 
             ⟨(some 31), (.mv (.tmp 6)), none⟩, 
             ⟨(some 32), (.bin .mul (.const (.int .i64 7)) (.tmp 31)), none⟩, 
             ⟨(some 33), (.bin .shl (.tmp 30) (.tmp 32)), none⟩, 
             ⟨(some 34), (.bin .or (.tmp 24) (.tmp 33)), none⟩, 
             ⟨(some 5), (.mv (.tmp 34)), none⟩])
            (.seq (.ops [
              ⟨(some 35), (.mv (.tmp 0)), none⟩, 
              ⟨(some 36), (.mv (.tmp 6)), none⟩, 
              ⟨(some 37), (.idxSl 1 (.tmp 35) (.tmp 36)), none⟩, 
              ⟨(some 38), (.load1 (.tmp 37)), none⟩, 
              ⟨(some 39), (.bin .lss (.tmp 38) (.const (.int .u8 128))), none⟩])
             (.cond (.tmp 39)
              (.seq (.seq (.ops [
                 ⟨(some 40), (.mv (.tmp 0)), none⟩, 
                 ⟨(some 41), (.mv (.tmp 6)), none⟩, 
                 ⟨(some 42), (.idxSl 1 (.tmp 40) (.tmp 41)), none⟩, 
                 ⟨(some 43), (.load1 (.tmp 42)), none⟩, 
                 ⟨(some 44), (.bin .eql (.tmp 43) (.const (.int .u8 0))), none⟩, 
                 ⟨(some 45), (.mv (.tmp 44)), none⟩, 
                 ⟨(some 46), (.mv (.tmp 6)), (some (45, true))⟩, 
                 ⟨(some 47), (.bin .gtr (.tmp 46) (.const (.int .i64 0))), (some (45, true))⟩, 
                 ⟨(some 48), (.pick (.tmp 45) (.tmp 47) (.const (.bool false))), none⟩])
                (.cond (.tmp 48)
                 (.seq (.ops [
                   ⟨(some 2), (.mv (.const (.int .u64 0))), none⟩, 
                   ⟨(some 3), (.mv (.const (.int .i64 0))), none⟩, 
                   ⟨(some 4), (.mv (.const (.int .i64 22))), none⟩])
                  .ret)
                 .skip))
               (.seq (.ops [
                 ⟨(some 49), (.mv (.tmp 5)), none⟩, 
                 ⟨(some 50), (.mv (.tmp 6)), none⟩, 
                 ⟨(some 51), (.bin .add (.tmp 50) (.const (.int .i64 1))), none⟩, 
                 ⟨(some 2), (.mv (.tmp 49)), none⟩, 
                 ⟨(some 3), (.mv (.tmp 51)), none⟩, 
                 ⟨(some 4), (.mv (.const (.int .i64 0))), none⟩])
                .ret))
              .skip))))))
        (.ops [
         ⟨(some 9), (.mv (.tmp 6)), none⟩, 
         ⟨(some 10), (.bin .add (.tmp 9) (.const (.int .i64 1))), none⟩, 
         ⟨(some 6), (.mv (.tmp 10)), none⟩]))))))
   (.seq (.ops [
     ⟨(some 2), (.mv (.const (.int .u64 0))), none⟩, 
     ⟨(some 3), (.mv (.const (.int .i64 0))), none⟩, 
     ⟨(some 4), (.mv (.const (.int .i64 22))), none⟩])
    .ret))))
theorem c17 {args : Array Value} {h : Heap} {R : Ending → Heap → Prop} (ha : args.size ≤ 52) (hh : aexec Try.prog ac17 (abody [(.slot 2), (.slot 3), (.slot 4)] R) ⟨initFr args.toList, []⟩ h) : HCalls Try.prog 17 args h R :=
  hcalls_of Try.func17 rfl rfl (by kernel_rfl) (by kernel_rfl) ha hh
/-- 18: credenza/octets.ReadText -/
def ac18 : ACode :=
 (.seq (.ops [
  ⟨(some 4), (.mv (.const (.string ⟨#[]⟩))), none⟩, 
  ⟨(some 5), (.mv (.const (.int .i64 0))), none⟩, 
  ⟨(some 6), (.mv (.const (.int .i64 0))), none⟩])
 (.seq (.ops [
   ⟨(some 12), (.mv (.tmp 0)), none⟩, 
   ⟨(some 13), (.callF 16 [(.tmp 12)]), none⟩, 
   ⟨(some 11), (.mv (.tmp 13)), none⟩, 
   ⟨(some 14), (.extract (.tmp 11) 0), none⟩, 
   ⟨(some 15), (.extract (.tmp 11) 1), none⟩, 
   ⟨(some 16), (.extract (.tmp 11) 2), none⟩, 
   ⟨(some 7), (.mv (.tmp 14)), none⟩, 
   ⟨(some 8), (.mv (.tmp 15)), none⟩, 
   ⟨(some 9), (.mv (.tmp 16)), none⟩])
  (.seq (.block 0
    (.seq (.ops [
      ⟨(some 18), (.mv (.tmp 9)), none⟩, 
      ⟨(some 19), (.bin .neq (.tmp 18) (.const (.int .i64 0))), none⟩, 
      ⟨(some 17), (.mv (.tmp 19)), none⟩])
     (.cond (.tmp 17)
      (.seq (.ops [
        ⟨(some 20), (.mv (.tmp 9)), none⟩, 
        ⟨(some 4), (.mv (.const (.string ⟨#[]⟩))), none⟩, 
        ⟨(some 5), (.mv (.const (.int .i64 0))), none⟩, 
        ⟨(some 6), (.mv (.tmp 20)), none⟩])
       .ret)
      (.seq (.ops [
        ⟨(some 22), (.mv (.tmp 1)), none⟩, 
        ⟨(some 23), (.bin .lss (.tmp 22) (.const (.int .i64 0))), none⟩, 
        ⟨(some 24), (.mv (.tmp 23)), none⟩, 
        ⟨(some 25), (.mv (.tmp 7)), (some (24, false))⟩, 
        ⟨(some 26), (.mv (.tmp 1)), (some (24, false))⟩, 
        ⟨(some 27), (.convInt .u64 (.tmp 26)), (some (24, false))⟩, 
        ⟨(some 28), (.bin .gtr (.tmp 25) (.tmp 27)), (some (24, false))⟩, 
        ⟨(some 29), (.pick (.tmp 24) (.const (.bool true)) (.tmp 28)), none⟩, 
        ⟨(some 21), (.mv (.tmp 29)), none⟩])
       (.cond (.tmp 21)
        (.seq (.ops [
          ⟨(some 4), (.mv (.const (.string ⟨#[]⟩))), none⟩, 
          ⟨(some 5), (.mv (.const (.int .i64 0))), none⟩, 
          ⟨(some 6), (.mv (.const (.int .i64 22))), none⟩])
         .ret)
        (.seq (.ops [
          ⟨(some 31), (.mv (.tmp 0)), none⟩, 
          ⟨(some 32), (.lenSl (.tmp 31)), none⟩, 
          ⟨(some 33), (.mv (.tmp 8)), none⟩, 
          ⟨(some 34), (.bin .sub (.tmp 32) (.tmp 33)), none⟩, 
          ⟨(some 35), (.convInt .u64 (.tmp 34)), none⟩, 
          ⟨(some 36), (.mv (.tmp 7)), none⟩, 
          ⟨(some 37), (.bin .lss (.tmp 35) (.tmp 36)), none⟩, 
          ⟨(some 30), (.mv (.tmp 37)), none⟩])
         (.cond (.tmp 30)
          (.seq (.ops [
            ⟨(some 4), (.mv (.const (.string ⟨#[]⟩))), none⟩, 
            ⟨(some 5), (.mv (.const (.int .i64 0))), none⟩, 
            ⟨(some 6), (.mv (.const (.int .i64 20))), none⟩])
           .ret)
          .skip)))))))
   (.seq (.ops [
     ⟨(some 38), (.mv (.tmp 8)), none⟩, 
     ⟨(some 39), (.mv (.tmp 7)), none⟩, 
     ⟨(some 40), (.convInt .i64 (.tmp 39)), none⟩, 
     ⟨(some 41), (.bin .add (.tmp 38) (.tmp 40)), none⟩, 
     ⟨(some 10), (.mv (.tmp 41)), none⟩])
    (.seq (.ops [
      ⟨(some 42), (.mv (.tmp 0)), none⟩, 
      ⟨(some 43), (.mv (.tmp 8)), none⟩, 
      ⟨(some 44), (.mv (.tmp 10)), none⟩, 
      ⟨(some 45), (.sliceSl 1 (.tmp 42) (some (.tmp 43)) (some (.tmp 44)) none), none⟩, 
      ⟨(some 46), (.strOfBytes (.tmp 45)), none⟩, 
      ⟨(some 47), (.mv (.tmp 10)), none⟩, 
      ⟨(some 4), (.mv (.tmp 46)), none⟩, 
      ⟨(some 5), (.mv (.tmp 47)), none⟩, 
      ⟨(some 6), (.mv (.const (.int .i64 0))), none⟩])
     .ret)))))
theorem c18 {args : Array Value} {h : Heap} {R : Ending → Heap → Prop} (ha : args.size ≤ 48) (hh : aexec Try.prog ac18 (abody [(.slot 4), (.slot 5), (.slot 6)] R) ⟨initFr args.toList, []⟩ h) : HCalls Try.prog 18 args h R :=
  hcalls_of Try.func18 rfl rfl (by kernel_rfl) (by kernel_rfl) ha hh
/-- 19: credenza/credenzaref02.ReadText -/
def ac19 : ACode :=
 (.seq (.ops [
  ⟨(some 4), (.mv (.const (.string ⟨#[]⟩))), none⟩, 
  ⟨(some 5), (.mv (.const (.int .i64 0))), none⟩, 
  ⟨(some 6), (.mv (.const (.int .i64 0))), none⟩])
 (.seq (.ops [
   ⟨(some 11), (.mv (.tmp 0)), none⟩, 
   ⟨(some 12), (.callF 17 [(.tmp 11)]), none⟩, 
   ⟨(some 10), (.mv (.tmp 12)), none⟩, 
   ⟨(some 13), (.extract (.tmp 10) 0), none⟩, 
   ⟨(some 14), (.extract (.tmp 10) 1), none⟩, 
   ⟨(some 15), (.extract (.tmp 10) 2), none⟩, 
   ⟨(some 7), (.mv (.tmp 13)), none⟩, 
   ⟨(some 8), (.mv (.tmp 14)), none⟩, 
   ⟨(some 9), (.mv (.tmp 15)), none⟩])
  (.seq (.seq (.ops [
     ⟨(some 16), (.mv (.tmp 9)), none⟩, 
     ⟨(some 17), (.bin .neq (.tmp 16) (.const (.int .i64 0))), none⟩])
    (.cond (.tmp 17)
     (.seq (.ops [
       ⟨(some 18), (.mv (.tmp 9)), none⟩, 
       ⟨(some 4), (.mv (.const (.string ⟨#[]⟩))), none⟩, 
       ⟨(some 5), (.mv (.const (.int .i64 0))), none⟩, 
       ⟨(some 6), (.mv (.tmp 18)), none⟩])
      .ret)
     .skip))
   (.seq (.seq (.ops [
      ⟨(some 19), (.mv (.tmp 1)), none⟩, 
      ⟨(some 20), (.bin .lss (.tmp 19) (.const (.int .i64 0))), none⟩, 
      ⟨(some 21), (.mv (.tmp 20)), none⟩, 
      ⟨(some 22), (.mv (.tmp 7)), (some (21, false))⟩, 
      ⟨(some 23), (.mv (.tmp 1)), (some (21, false))⟩, 
      ⟨(some 24), (.convInt .u64 (.tmp 23)), (some (21, false))⟩, 
      ⟨(some 25), (.bin .gtr (.tmp 22) (.tmp 24)), (some (21, false))⟩, 
      ⟨(some 26), (.pick (.tmp 21) (.const (.bool true)) (.tmp 25)), none⟩])
     (.cond (.tmp 26)
      (.seq (.ops [
        ⟨(some 4), (.mv (.const (.string ⟨#[]⟩))), none⟩, 
        ⟨(some 5), (.mv (.const (.int .i64 0))), none⟩, 
        ⟨(some 6), (.mv (.const (.int .i64 22))), none⟩])
       .ret)
      .skip))
    (.seq (.seq (.ops [
       ⟨(some 27), (.mv (.tmp 7)), none⟩, 
       ⟨(some 28), (.mv (.tmp 0)), none⟩, 
       ⟨(some 29), (.lenSl (.tmp 28)), none⟩, 
       ⟨(some 30), (.mv (.tmp 8)), none⟩, 
       ⟨(some 31), (.bin .sub (.tmp 29) (.tmp 30)), none⟩, 
       ⟨(some 32), (.convInt .u64 (.tmp 31)), none⟩, 
       ⟨(some 33), (.bin .gtr (.tmp 27) (.tmp 32)), none⟩])
      (.cond (.tmp 33)
       (.seq (.ops [
         ⟨(some 4), (.mv (.const (.string ⟨#[]⟩))), none⟩, 
         ⟨(some 5), (.mv (.const (.int .i64 0))), none⟩, 
         ⟨(some 6), (.mv (.const (.int .i64 20))), none⟩])
        .ret)
       .skip))
     (.seq (.ops [
       ⟨(some 34), (.mv (.tmp 0)), none⟩, 
       ⟨(some 35), (.mv (.tmp 8)), none⟩, 
       ⟨(some 36), (.mv (.tmp 8)), none⟩, 
       ⟨(some 37), (.mv (.tmp 7)), none⟩, 
       ⟨(some 38), (.convInt .i64 (.tmp 37)), none⟩, 
       ⟨(some 39), (.bin .add (.tmp 36) (.tmp 38)), none⟩, 
       ⟨(some 40), (.sliceSl 1 (.tmp 34) (some (.tmp 35)) (some (.tmp 39)) none), none⟩, 
       ⟨(some 41), (.strOfBytes (.tmp 40)), none⟩, 
       ⟨(some 42), (.mv (.tmp 8)), none⟩, 
       ⟨(some 43), (.mv (.tmp 7)), none⟩, 
       ⟨(some 44), (.convInt .i64 (.tmp 43)), none⟩, 
       ⟨(some 45), (.bin .add (.tmp 42) (.tmp 44)), none⟩, 
       ⟨(some 4), (.mv (.tmp 41)), none⟩, 
       ⟨(some 5), (.mv (.tmp 45)), none⟩, 
       ⟨(some 6), (.mv (.const (.int .i64 0))), none⟩])
      .ret))))))
theorem c19 {args : Array Value} {h : Heap} {R : Ending → Heap → Prop} (ha : args.size ≤ 46) (hh : aexec Try.prog ac19 (abody [(.slot 4), (.slot 5), (.slot 6)] R) ⟨initFr args.toList, []⟩ h) : HCalls Try.prog 19 args h R :=
  hcalls_of Try.func19 rfl rfl (by kernel_rfl) (by kernel_rfl) ha hh
/-- 20: credenza/credenzalaw02.framed -/
def ac20 : ACode :=
 (.seq (.ops [
  ⟨(some 0), (.mv (.const (.bool false))), none⟩])
 (.seq (.ops [
   ⟨(some 5), (.buildSlice 5 1 [(.int .u8 0)] [(0, 1, (.const (.int .u8 97)))]), none⟩, 
   ⟨(some 6), (.callF 21 [(.tmp 5)]), none⟩, 
   ⟨(some 7), (.callF 22 [(.tmp 6), (.const (.int .i64 9))]), none⟩, 
   ⟨(some 4), (.mv (.tmp 7)), none⟩, 
   ⟨(some 8), (.extract (.tmp 4) 0), none⟩, 
   ⟨(some 9), (.extract (.tmp 4) 1), none⟩, 
   ⟨(some 10), (.extract (.tmp 4) 2), none⟩, 
   ⟨(some 1), (.mv (.tmp 8)), none⟩, 
   ⟨(some 2), (.mv (.tmp 9)), none⟩, 
   ⟨(some 3), (.mv (.tmp 10)), none⟩])
  (.seq (.ops [
    ⟨(some 11), (.mv (.tmp 1)), none⟩, 
    ⟨(some 12), (.buildSlice 5 1 [(.int .u8 0)] [(0, 1, (.const (.int .u8 97)))]), none⟩, 
    ⟨(some 13), (.callF 12 [(.tmp 11), (.tmp 12)]), none⟩, 
    ⟨(some 14), (.mv (.tmp 13)), none⟩, 
    ⟨(some 15), (.mv (.tmp 2)), (some (14, true))⟩, 
    ⟨(some 16), (.bin .eql (.tmp 15) (.const (.int .i64 9))), (some (14, true))⟩, 
    ⟨(some 17), (.pick (.tmp 14) (.tmp 16) (.const (.bool false))), none⟩, 
    ⟨(some 18), (.mv (.tmp 17)), none⟩, 
    ⟨(some 19), (.mv (.tmp 3)), (some (18, true))⟩, 
    ⟨(some 20), (.bin .eql (.tmp 19) (.const (.int .i64 0))), (some (18, true))⟩, 
    ⟨(some 21), (.pick (.tmp 18) (.tmp 20) (.const (.bool false))), none⟩, 
    ⟨(some 0), (.mv (.tmp 21)), none⟩])
   .ret)))
theorem c20 {args : Array Value} {h : Heap} {R : Ending → Heap → Prop} (ha : args.size ≤ 22) (hh : aexec Try.prog ac20 (abody [(.slot 0)] R) ⟨initFr args.toList, []⟩ h) : HCalls Try.prog 20 args h R :=
  hcalls_of Try.func20 rfl rfl (by kernel_rfl) (by kernel_rfl) ha hh
/-- 21: credenza/octets.Frame -/
def ac21 : ACode :=
 (.seq (.ops [
  ⟨(some 2), (.mv (.const (.slice none 0 0))), none⟩])
 (.seq (.ops [
   ⟨(some 4), (.mv (.tmp 0)), none⟩, 
   ⟨(some 5), (.lenSl (.tmp 4)), none⟩, 
   ⟨(some 6), (.bin .add (.const (.int .i64 8)) (.tmp 5)), none⟩, 
   ⟨(some 7), (.mkSlice 5 1 1 [(.int .u8 0)] (.tmp 6) (.tmp 6)), none⟩, 
   ⟨(some 3), (.mv (.tmp 7)), none⟩])
  (.seq (.ops [
    ⟨(some 8), (.mv (.tmp 3)), none⟩, 
    ⟨(some 9), (.mv (.tmp 0)), none⟩, 
    ⟨(some 10), (.lenSl (.tmp 9)), none⟩, 
    ⟨(some 11), (.convInt .u32 (.tmp 10)), none⟩, 
    ⟨(some 12), (.callF 27 [(.tmp 8), (.tmp 11)]), none⟩])
   (.seq (.ops [
     ⟨(some 13), (.mv (.tmp 3)), none⟩, 
     ⟨(some 14), (.sliceSl 1 (.tmp 13) (some (.const (.int .i64 8))) none none), none⟩, 
     ⟨(some 15), (.mv (.tmp 0)), none⟩, 
     ⟨(some 16), (.copy 1 (.tmp 14) (.tmp 15)), none⟩])
    (.seq (.any [17, 18, 19, 20, 21, 22, 23, 24, 25] [
      ⟨(some 17), (.mv (.tmp 3)), none⟩, 
      ⟨(some 18), (.sliceSl 1 (.tmp 17) (some (.const (.int .i64 4))) none none), none⟩, 
      ⟨(some 19), (.mv (.tmp 3)), none⟩, 
      ⟨(some 20), (.sliceSl 1 (.tmp 19) none (some (.const (.int .i64 4))) none), none⟩, 
      ⟨(some 22), (.mv (.tmp 0)), none⟩, 
      ⟨(some 21), (.callF 28 [(.const (.int .u32 4294967295)), (.tmp 20)]), none⟩, 
      ⟨(some 23), (.callF 28 [(.tmp 21), (.tmp 22)]), none⟩, 
      ⟨(some 24), (.un .xor (.tmp 23)), none⟩, 
      ⟨(some 25), (.callF 27 [(.tmp 18), (.tmp 24)]), none⟩])
     (.seq (.ops [
       ⟨(some 26), (.mv (.tmp 3)), none⟩, 
       ⟨(some 2), (.mv (.tmp 26)), none⟩])
      .ret))))))
theorem c21 {args : Array Value} {h : Heap} {R : Ending → Heap → Prop} (ha : args.size ≤ 27) (hh : aexec Try.prog ac21 (abody [(.slot 2)] R) ⟨initFr args.toList, []⟩ h) : HCalls Try.prog 21 args h R :=
  hcalls_of Try.func21 rfl rfl (by kernel_rfl) (by kernel_rfl) ha hh
/-- 22: credenza/octets.Unframe -/
def ac22 : ACode :=
 (.seq (.ops [
  ⟨(some 4), (.mv (.const (.slice none 0 0))), none⟩, 
  ⟨(some 5), (.mv (.const (.int .i64 0))), none⟩, 
  ⟨(some 6), (.mv (.const (.int .i64 0))), none⟩])
 (.seq (.seq (.ops [
    ⟨(some 9), (.mv (.tmp 0)), none⟩, 
    ⟨(some 10), (.lenSl (.tmp 9)), none⟩, 
    ⟨(some 11), (.bin .lss (.tmp 10) (.const (.int .i64 8))), none⟩])
   (.cond (.tmp 11)
    (.seq (.ops [
      ⟨(some 4), (.mv (.const (.slice none 0 0))), none⟩, 
      ⟨(some 5), (.mv (.const (.int .i64 0))), none⟩, 
      ⟨(some 6), (.mv (.const (.int .i64 20))), none⟩])
     .ret)
    .skip))
  (.seq (.ops [
    ⟨(some 12), (.mv (.tmp 0)), none⟩, 
    ⟨(some 13), (.callF 29 [(.tmp 12)]), none⟩, 
    ⟨(some 14), (.convInt .i64 (.tmp 13)), none⟩, 
    ⟨(some 7), (.mv (.tmp 14)), none⟩])
   (.seq (.block 0
     (.seq (.ops [
       ⟨(some 16), (.mv (.tmp 7)), none⟩, 
       ⟨(some 17), (.mv (.tmp 1)), none⟩, 
       ⟨(some 18), (.bin .gtr (.tmp 16) (.tmp 17)), none⟩, 
       ⟨(some 15), (.mv (.tmp 18)), none⟩])
      (.cond (.tmp 15)
       (.seq (.ops [
         ⟨(some 4), (.mv (.const (.slice none 0 0))), none⟩, 
         ⟨(some 5), (.mv (.const (.int .i64 0))), none⟩, 
         ⟨(some 6), (.mv (.const (.int .i64 22))), none⟩])
        .ret)
       (.seq (.ops [
         ⟨(some 20), (.mv (.tmp 7)), none⟩, 
         ⟨(some 21), (.mv (.tmp 0)), none⟩, 
         ⟨(some 22), (.lenSl (.tmp 21)), none⟩, 
         ⟨(some 23), (.bin .sub (.tmp 22) (.const (.int .i64 8))), none⟩, 
         ⟨(some 24), (.bin .gtr (.tmp 20) (.tmp 23)), none⟩, 
         ⟨(some 19), (.mv (.tmp 24)), none⟩])
        (.cond (.tmp 19)
         (.seq (.ops [
           ⟨(some 4), (.mv (.const (.slice none 0 0))), none⟩, 
           ⟨(some 5), (.mv (.const (.int .i64 0))), none⟩, 
           ⟨(some 6), (.mv (.const (.int .i64 20))), none⟩])
          .ret)
         (.seq (.any [26, 27, 28, 29, 30, 31, 32, 33, 34, 35, 36, 37, 38, 25] [
           ⟨(some 26), (.mv (.tmp 0)), none⟩, 
           ⟨(some 27), (.sliceSl 1 (.tmp 26) none (some (.const (.int .i64 4))) none), none⟩, 
           ⟨(some 29), (.mv (.tmp 0)), none⟩, 
           ⟨(some 30), (.mv (.tmp 7)), none⟩, 
           ⟨(some 31), (.bin .add (.const (.int .i64 8)) (.tmp 30)), none⟩, 
           ⟨(some 32), (.sliceSl 1 (.tmp 29) (some (.const (.int .i64 8))) (some (.tmp 31)) none), none⟩, 
           ⟨(some 35), (.mv (.tmp 0)), none⟩, 
           ⟨(some 36), (.sliceSl 1 (.tmp 35) (some (.const (.int .i64 4))) none none), none⟩, 
           ⟨(some 28), (.callF 28 [(.const (.int .u32 4294967295)), (.tmp 27)]), none⟩, 
           ⟨(some 33), (.callF 28 [(.tmp 28), (.tmp 32)]), none⟩, 
           ⟨(some 34), (.un .xor (.tmp 33)), none⟩, 
           ⟨(some 37), (.callF 29 [(.tmp 36)]), none⟩, 
           ⟨(some 38), (.bin .neq (.tmp 34) (.tmp 37)), none⟩, 
           ⟨(some 25), (.mv (.tmp 38)), none⟩])
          (.cond (.tmp 25)
           (.seq (.ops [
             ⟨(some 4), (.mv (.const (.slice none 0 0))), none⟩, 
             ⟨(some 5), (.mv (.const (.int .i64 0))), none⟩, 
             ⟨(some 6), (.mv (.const (.int .i64 21))), none⟩])
            .ret)
           .skip)))))))
    (.seq (.ops [
      ⟨(some 39), (.mv (.tmp 7)), none⟩, 
      ⟨(some 40), (.mkSlice 5 1 1 [(.int .u8 0)] (.tmp 39) (.tmp 39)), none⟩, 
      ⟨(some 8), (.mv (.tmp 40)), none⟩])
     (.seq (.ops [
       ⟨(some 41), (.mv (.tmp 8)), none⟩, 
       ⟨(some 42), (.mv (.tmp 0)), none⟩, 
       ⟨(some 43), (.sliceSl 1 (.tmp 42) (some (.const (.int .i64 8))) none none), none⟩, 
       ⟨(some 44), (.copy 1 (.tmp 41) (.tmp 43)), none⟩])
      (.seq (.ops [
        ⟨(some 45), (.mv (.tmp 8)), none⟩, 
        ⟨(some 46), (.mv (.tmp 7)), none⟩, 
        ⟨(some 47), (.bin .add (.const (.int .i64 8)) (.tmp 46)), none⟩, 
        ⟨(some 4), (.mv (.tmp 45)), none⟩, 
        ⟨(some 5), (.mv (.tmp 47)), none⟩, 
        ⟨(some 6), (.mv (.const (.int .i64 0))), none⟩])
       .ret)))))))
theorem c22 {args : Array Value} {h : Heap} {R : Ending → Heap → Prop} (ha : args.size ≤ 48) (hh : aexec Try.prog ac22 (abody [(.slot 4), (.slot 5), (.slot 6)] R) ⟨initFr args.toList, []⟩ h) : HCalls Try.prog 22 args h R :=
  hcalls_of Try.func22 rfl rfl (by kernel_rfl) (by kernel_rfl) ha hh
/-- 23: credenza/credenzaref02.Unframe -/
def ac23 : ACode :=
 (.seq (.ops [
  ⟨(some 4), (.mv (.const (.slice none 0 0))), none⟩, 
  ⟨(some 5), (.mv (.const (.int .i64 0))), none⟩, 
  ⟨(some 6), (.mv (.const (.int .i64 0))), none⟩])
 (.seq (.seq (.ops [
    ⟨(some 9), (.mv (.tmp 0)), none⟩, 
    ⟨(some 10), (.lenSl (.tmp 9)), none⟩, 
    ⟨(some 11), (.bin .lss (.tmp 10) (.const (.int .i64 8))), none⟩])
   (.cond (.tmp 11)
    (.seq (.ops [
      ⟨(some 4), (.mv (.const (.slice none 0 0))), none⟩, 
      ⟨(some 5), (.mv (.const (.int .i64 0))), none⟩, 
      ⟨(some 6), (.mv (.const (.int .i64 20))), none⟩])
     .ret)
    .skip))
  (.seq (.ops [
    ⟨(some 12), (.mv (.tmp 0)), none⟩, 
    ⟨(some 13), (.callF 30 [(.tmp 12)]), none⟩, 
    ⟨(some 7), (.mv (.tmp 13)), none⟩])
   (.seq (.seq (.ops [
      ⟨(some 14), (.mv (.tmp 1)), none⟩, 
      ⟨(some 15), (.bin .lss (.tmp 14) (.const (.int .i64 0))), none⟩, 
      ⟨(some 16), (.mv (.tmp 15)), none⟩, 
      ⟨(some 17), (.mv (.tmp 7)), (some (16, false))⟩, 
      ⟨(some 18), (.convInt .u64 (.tmp 17)), (some (16, false))⟩, 
      ⟨(some 19), (.mv (.tmp 1)), (some (16, false))⟩, 
      ⟨(some 20), (.convInt .u64 (.tmp 19)), (some (16, false))⟩, 
      ⟨(some 21), (.bin .gtr (.tmp 18) (.tmp 20)), (some (16, false))⟩, 
      ⟨(some 22), (.pick (.tmp 16) (.const (.bool true)) (.tmp 21)), none⟩])
     (.cond (.tmp 22)
      (.seq (.ops [
        ⟨(some 4), (.mv (.const (.slice none 0 0))), none⟩, 
        ⟨(some 5), (.mv (.const (.int .i64 0))), none⟩, 
        ⟨(some 6), (.mv (.const (.int .i64 22))), none⟩])
       .ret)
      .skip))
    (.seq (.seq (.ops [
       ⟨(some 23), (.mv (.tmp 7)), none⟩, 
       ⟨(some 24), (.convInt .u64 (.tmp 23)), none⟩, 
       ⟨(some 25), (.mv (.tmp 0)), none⟩, 
       ⟨(some 26), (.lenSl (.tmp 25)), none⟩, 
       ⟨(some 27), (.bin .sub (.tmp 26) (.const (.int .i64 8))), none⟩, 
       ⟨(some 28), (.convInt .u64 (.tmp 27)), none⟩, 
       ⟨(some 29), (.bin .gtr (.tmp 24) (.tmp 28)), none⟩])
      (.cond (.tmp 29)
       (.seq (.ops [
         ⟨(some 4), (.mv (.const (.slice none 0 0))), none⟩, 
         ⟨(some 5), (.mv (.const (.int .i64 0))), none⟩, 
         ⟨(some 6), (.mv (.const (.int .i64 20))), none⟩])
        .ret)
       .skip))
     (.seq (.ops [
       ⟨(some 30), (.mv (.tmp 0)), none⟩, 
       ⟨(some 31), (.mv (.tmp 7)), none⟩, 
       ⟨(some 32), (.convInt .i64 (.tmp 31)), none⟩, 
       ⟨(some 33), (.bin .add (.const (.int .i64 8)) (.tmp 32)), none⟩, 
       ⟨(some 34), (.sliceSl 1 (.tmp 30) (some (.const (.int .i64 8))) (some (.tmp 33)) none), none⟩, 
       ⟨(some 35), (.append 5 1 1 [(.int .u8 0)] (.const (.slice none 0 0)) (.tmp 34)), none⟩, 
       ⟨(some 8), (.mv (.tmp 35)), none⟩])
      (.seq (.seq (.any [36, 37, 38, 39, 40, 41, 42, 43, 44, 45] [
         ⟨(some 36), (.mv (.tmp 0)), none⟩, 
         ⟨(some 37), (.sliceSl 1 (.tmp 36) none (some (.const (.int .i64 4))) none), none⟩, 
         ⟨(some 39), (.mv (.tmp 8)), none⟩, 
         ⟨(some 42), (.mv (.tmp 0)), none⟩, 
         ⟨(some 43), (.sliceSl 1 (.tmp 42) (some (.const (.int .i64 4))) none none), none⟩, 
         ⟨(some 38), (.append 5 1 1 [(.int .u8 0)] (.const (.slice none 0 0)) (.tmp 37)), none⟩, 
         ⟨(some 40), (.append 5 1 1 [(.int .u8 0)] (.tmp 38) (.tmp 39)), none⟩, 
         ⟨(some 41), (.callF 26 [(.tmp 40)]), none⟩, 
         ⟨(some 44), (.callF 30 [(.tmp 43)]), none⟩, 
         ⟨(some 45), (.bin .neq (.tmp 41) (.tmp 44)), none⟩])
        (.cond (.tmp 45)
         (.seq (.ops [
           ⟨(some 4), (.mv (.const (.slice none 0 0))), none⟩, 
           ⟨(some 5), (.mv (.const (.int .i64 0))), none⟩, 
           ⟨(some 6), (.mv (.const (.int .i64 21))), none⟩])
          .ret)
         .skip))
       (.seq (.ops [
         ⟨(some 46), (.mv (.tmp 8)), none⟩, 
         ⟨(some 47), (.mv (.tmp 7)), none⟩, 
         ⟨(some 48), (.convInt .i64 (.tmp 47)), none⟩, 
         ⟨(some 49), (.bin .add (.const (.int .i64 8)) (.tmp 48)), none⟩, 
         ⟨(some 4), (.mv (.tmp 46)), none⟩, 
         ⟨(some 5), (.mv (.tmp 49)), none⟩, 
         ⟨(some 6), (.mv (.const (.int .i64 0))), none⟩])
        .ret))))))))
theorem c23 {args : Array Value} {h : Heap} {R : Ending → Heap → Prop} (ha : args.size ≤ 50) (hh : aexec Try.prog ac23 (abody [(.slot 4), (.slot 5), (.slot 6)] R) ⟨initFr args.toList, []⟩ h) : HCalls Try.prog 23 args h R :=
  hcalls_of Try.func23 rfl rfl (by kernel_rfl) (by kernel_rfl) ha hh
/-- 24: credenza/credenzaref02.Frame -/
def ac24 : ACode :=
 (.seq (.ops [
  ⟨(some 2), (.mv (.const (.slice none 0 0))), none⟩])
 (.seq (.ops [
   ⟨(some 5), (.mv (.tmp 0)), none⟩, 
   ⟨(some 6), (.lenSl (.tmp 5)), none⟩, 
   ⟨(some 7), (.convInt .u32 (.tmp 6)), none⟩, 
   ⟨(some 8), (.callF 31 [(.tmp 7)]), none⟩, 
   ⟨(some 3), (.mv (.tmp 8)), none⟩])
  (.seq (.ops [
    ⟨(some 9), (.mv (.tmp 3)), none⟩, 
    ⟨(some 10), (.append 5 1 1 [(.int .u8 0)] (.const (.slice none 0 0)) (.tmp 9)), none⟩, 
    ⟨(some 11), (.mv (.tmp 0)), none⟩, 
    ⟨(some 12), (.append 5 1 1 [(.int .u8 0)] (.tmp 10) (.tmp 11)), none⟩, 
    ⟨(some 4), (.mv (.tmp 12)), none⟩])
   (.seq (.ops [
     ⟨(some 13), (.mv (.tmp 3)), none⟩, 
     ⟨(some 14), (.append 5 1 1 [(.int .u8 0)] (.const (.slice none 0 0)) (.tmp 13)), none⟩, 
     ⟨(some 15), (.mv (.tmp 4)), none⟩, 
     ⟨(some 16), (.callF 26 [(.tmp 15)]), none⟩, 
     ⟨(some 17), (.callF 31 [(.tmp 16)]), none⟩, 
     ⟨(some 18), (.append 5 1 1 [(.int .u8 0)] (.tmp 14) (.tmp 17)), none⟩, 
     ⟨(some 19), (.mv (.tmp 0)), none⟩, 
     ⟨(some 20), (.append 5 1 1 [(.int .u8 0)] (.tmp 18) (.tmp 19)), none⟩, 
     ⟨(some 2), (.mv (.tmp 20)), none⟩])
    .ret))))
theorem c24 {args : Array Value} {h : Heap} {R : Ending → Heap → Prop} (ha : args.size ≤ 21) (hh : aexec Try.prog ac24 (abody [(.slot 2)] R) ⟨initFr args.toList, []⟩ h) : HCalls Try.prog 24 args h R :=
  hcalls_of Try.func24 rfl rfl (by kernel_rfl) (by kernel_rfl) ha hh
/-- 25: credenza/octets.Sum -/
def ac25 : ACode :=
 (.seq (.ops [
  ⟨(some 2), (.mv (.const (.int .u32 0))), none⟩])
 (.seq (.ops [
   ⟨(some 3), (.mv (.tmp 0)), none⟩, 
   ⟨(some 4), (.callF 28 [(.const (.int .u32 4294967295)), (.tmp 3)]), none⟩, 
   ⟨(some 5), (.un .xor (.tmp 4)), none⟩, 
   ⟨(some 2), (.mv (.tmp 5)), none⟩])
  .ret))
theorem c25 {args : Array Value} {h : Heap} {R : Ending → Heap → Prop} (ha : args.size ≤ 6) (hh : aexec Try.prog ac25 (abody [(.slot 2)] R) ⟨initFr args.toList, []⟩ h) : HCalls Try.prog 25 args h R :=
  hcalls_of Try.func25 rfl rfl (by kernel_rfl) (by kernel_rfl) ha hh
/-- 26: credenza/credenzaref02.Sum -/
def ac26 : ACode :=
 (.seq (.ops [
  ⟨(some 2), (.mv (.const (.int .u32 0))), none⟩])
 (.seq (.ops [
   ⟨(some 3), (.mv (.const (.int .u32 4294967295))), none⟩])
  (.seq (.seq (.ops [
     ⟨(some 7), (.mv (.tmp 0)), none⟩, 
     ⟨(some 8), (.lenSl (.tmp 7)), none⟩, 
     ⟨(some 9), (.mv (.const (.int .i64 0))), none⟩])
    (.block 0
     (.loop
      (.seq (.ops [
        ⟨(some 10), (.bin .lss (.tmp 9) (.tmp 8)), none⟩])
       (.seq (.cond (.tmp 10)
         .skip
         (.exit 0))
        (.seq (.block 1
          (.seq (.ops [
            ⟨(some 11), (.idxSl 1 (.tmp 7) (.tmp 9)), none⟩, 
            ⟨(some 12), (.load1 (.tmp 11)), none⟩, 
            ⟨(some 5), (.mv (.tmp 12)), none⟩])
           (.seq (.ops [
             ⟨(some 13), (.mv (.tmp 3)), none⟩, 
             ⟨(some 14), (.mv (.tmp 5)), none⟩, 
             ⟨(some 15), (.convInt .u32 (.tmp 14)), none⟩, 
             ⟨(some 16), (.bin .xor (.tmp 13) (.tmp 15)), none⟩, 
             ⟨(some 3), (.mv (.tmp 16)), none⟩])
            (.seq (.ops [
              ⟨(some 17), (.mv (.const (.int .i64 0))), none⟩])
             (.block 2
              (.loop
               (.seq (.ops [
                 ⟨(some 18), (.bin .lss (.tmp 17) (.const (.int .i64 8))), none⟩])
                (.seq (.cond (.tmp 18)
                  .skip
                  (.exit 2))
                 (.seq (.block 3
                   (.seq (.ops [
                     ⟨(some 19), (.mv (.tmp 3)), none⟩, 
                     ⟨(some 20), (.bin .rem (.tmp 19) (.const (.int .u32 2))), none⟩, 
                     ⟨(some 6), (.mv (.tmp 20)), none⟩])
                    (.seq (.ops [
                      ⟨(some 21), (.mv (.tmp 3)), none⟩, 
                      ⟨(some 22), (.bin .quo (.tmp 21) (.const (.int .u32 2))), none⟩, 
                      ⟨(some 3), (.mv (.tmp 22)), none⟩])
                     (.seq (.ops [
                       ⟨(some 23), (.mv (.tmp 6)), none⟩, 
                       ⟨(some 24), (.bin .eql (.tmp 23) (.const (.int .u32 1))), none⟩])
                      (.cond (.tmp 24)
                       (.ops [
                        ⟨(some 25), (.mv (.tmp 3)), none⟩, 
                        ⟨(some 26), (.bin .xor (.tmp 25) (.const (.int .u32 3988292384))), none⟩, 
                        ⟨(some 3), (.mv (.tmp 26)), none⟩])
                       .skip)))))
                  (.ops [
                   ⟨(some 27), (.bin .add (.tmp 17) (.const (.int .i64 1))), none⟩, 
                   ⟨(some 17), (.mv (.tmp 27)), none⟩]))))))))))
         (.ops [
          ⟨(some 28), (.bin .add (.tmp 9) (.const (.int .i64 1))), none⟩, 
          ⟨(some 9), (.mv (.tmp 28)), none⟩])))))))
   (.seq (.ops [
     ⟨(some 29), (.mv (.tmp 3)), none⟩, 
     ⟨(some 30), (.bin .sub (.const (.int .u32 4294967295)) (.tmp 29)), none⟩, 
     ⟨(some 2), (.mv (.tmp 30)), none⟩])
    .ret))))
theorem c26 {args : Array Value} {h : Heap} {R : Ending → Heap → Prop} (ha : args.size ≤ 31) (hh : aexec Try.prog ac26 (abody [(.slot 2)] R) ⟨initFr args.toList, []⟩ h) : HCalls Try.prog 26 args h R :=
  hcalls_of Try.func26 rfl rfl (by kernel_rfl) (by kernel_rfl) ha hh
/-- 27: credenza/octets.put -/
def ac27 : ACode :=
 (.ops [
 ⟨(some 4), (.mv (.tmp 0)), none⟩, 
 ⟨(some 5), (.mv (.tmp 0)), none⟩, 
 ⟨(some 6), (.mv (.tmp 0)), none⟩, 
 ⟨(some 7), (.mv (.tmp 0)), none⟩, 
 ⟨(some 8), (.mv (.tmp 1)), none⟩, 
 ⟨(some 9), (.bin .shr (.tmp 8) (.const (.int .u64 24))), none⟩, 
 ⟨(some 10), (.convInt .u8 (.tmp 9)), none⟩, 
 ⟨(some 11), (.mv (.tmp 1)), none⟩, 
 ⟨(some 12), (.bin .shr (.tmp 11) (.const (.int .u64 16))), none⟩, 
 ⟨(some 13), (.convInt .u8 (.tmp 12)), none⟩, 
 ⟨(some 14), (.mv (.tmp 1)), none⟩, 
 ⟨(some 15), (.bin .shr (.tmp 14) (.const (.int .u64 8))), none⟩, 
 ⟨(some 16), (.convInt .u8 (.tmp 15)), none⟩, 
 ⟨(some 17), (.mv (.tmp 1)), none⟩, 
 ⟨(some 18), (.convInt .u8 (.tmp 17)), none⟩, 
 ⟨(some 19), (.idxSl 1 (.tmp 4) (.const (.int .i64 0))), none⟩, 
 ⟨none, (.store1 (.tmp 19) (.tmp 10)), none⟩, 
 ⟨(some 20), (.idxSl 1 (.tmp 5) (.const (.int .i64 1))), none⟩, 
 ⟨none, (.store1 (.tmp 20) (.tmp 13)), none⟩, 
 ⟨(some 21), (.idxSl 1 (.tmp 6) (.const (.int .i64 2))), none⟩, 
 ⟨none, (.store1 (.tmp 21) (.tmp 16)), none⟩, 
 ⟨(some 22), (.idxSl 1 (.tmp 7) (.const (.int .i64 3))), none⟩, 
 ⟨none, (.store1 (.tmp 22) (.tmp 18)), none⟩])
theorem c27 {args : Array Value} {h : Heap} {R : Ending → Heap → Prop} (ha : args.size ≤ 23) (hh : aexec Try.prog ac27 (abody [] R) ⟨initFr args.toList, []⟩ h) : HCalls Try.prog 27 args h R :=
  hcalls_of Try.func27 rfl rfl (by kernel_rfl) (by kernel_rfl) ha hh
/-- 28: credenza/octets.sum -/
def ac28 : ACode :=
 (.seq (.ops [
  ⟨(some 4), (.mv (.const (.int .u32 0))), none⟩])
 (.seq (.seq (.ops [
    ⟨(some 7), (.mv (.tmp 1)), none⟩, 
    ⟨(some 8), (.lenSl (.tmp 7)), none⟩, 
    ⟨(some 9), (.mv (.const (.int .i64 0))), none⟩])
   (.block 0
    (.loop
     (.seq (.ops [
       ⟨(some 10), (.bin .lss (.tmp 9) (.tmp 8)), none⟩])
      (.seq (.cond (.tmp 10)
        .skip
        (.exit 0))
       (.seq (.block 1
         (.seq (.ops [
           ⟨(some 11), (.idxSl 1 (.tmp 7) (.tmp 9)), none⟩, 
           ⟨(some 12), (.load1 (.tmp 11)), none⟩, 
           ⟨(some 6), (.mv (.tmp 12)), none⟩])
          (.seq (.ops [
            ⟨(some 13), (.mv (.tmp 0)), none⟩, 
            ⟨(some 14), (.mv (.tmp 6)), none⟩, 
            ⟨(some 15), (.convInt .u32 (.tmp 14)), none⟩, 
            ⟨(some 16), (.bin .xor (.tmp 13) (.tmp 15)), none⟩, 
            ⟨(some 0), (.mv (.tmp 16)), none⟩])
           (.seq (.ops [
             ⟨(some 17), (.mv (.const (.int .i64 0))), none⟩])
            (.block 2
             (.loop
              (.seq (.ops [
                ⟨(some 18), (.bin .lss (.tmp 17) (.const (.int .i64 8))), none⟩])
               (.seq (.cond (.tmp 18)
                 .skip
                 (.exit 2))
                (.seq (.block 3
                  (.ops [
                   ⟨(some 19), (.mv (.tmp 0)), none⟩, 
                   ⟨(some 20), (.bin .shr (.tmp 19) (.const (.int .u64 1))), none⟩, 
                   ⟨(some 21), (.mv (.tmp 0)), none⟩, 
                   ⟨(some 22), (.bin .and (.tmp 21) (.const (.int .u32 1))), none⟩, 
                   ⟨(some 23), (.un .neg (.tmp 22)), none⟩, 
                   ⟨(some 24), (.bin .and (.const (.int .u32 3988292384)) (.tmp 23)), none⟩, 
                   ⟨(some 25), (.bin .xor (.tmp 20) (.tmp 24)), none⟩, 
                   ⟨(some 0), (.mv (.tmp 25)), none⟩]))
                 (.ops [
                  ⟨(some 26), (.bin .add (.tmp 17) (.const (.int .i64 1))), none⟩, 
                  ⟨(some 17), (.mv (.tmp 26)), none⟩]))))))))))
        (.ops [
         ⟨(some 27), (.bin .add (.tmp 9) (.const (.int .i64 1))), none⟩, 
         ⟨(some 9), (.mv (.tmp 27)), none⟩])))))))
  (.seq (.ops [
    ⟨(some 28), (.mv (.tmp 0)), none⟩, 
    ⟨(some 4), (.mv (.tmp 28)), none⟩])
   .ret)))
theorem c28 {args : Array Value} {h : Heap} {R : Ending → Heap → Prop} (ha : args.size ≤ 29) (hh : aexec Try.prog ac28 (abody [(.slot 4)] R) ⟨initFr args.toList, []⟩ h) : HCalls Try.prog 28 args h R :=
  hcalls_of Try.func28 rfl rfl (by kernel_rfl) (by kernel_rfl) ha hh
/-- 29: credenza/octets.word -/
def ac29 : ACode :=
 (.seq (.ops [
  ⟨(some 2), (.mv (.const (.int .u32 0))), none⟩])
 (.seq (.any [3, 4, 5, 6, 7, 8, 9, 10, 11, 12, 13, 14, 15, 16, 17, 18, 19, 20, 21, 22, 23, 24, 2] [
   ⟨(some 3), (.mv (.tmp 0)), none⟩, 
   ⟨(some 4), (.idxSl 1 (.tmp 3) (.const (.int .i64 0))), none⟩, 
   ⟨(some 5), (.load1 (.tmp 4)), none⟩, 
   ⟨(some 6), (.convInt .u32 (.tmp 5)), none⟩, 
   ⟨(some 7), (.bin .shl (.tmp 6) (.const (.int .u64 24))), none⟩, 
   ⟨(some 8), (.mv (.tmp 0)), none⟩, 
   ⟨(some 9), (.idxSl 1 (.tmp 8) (.const (.int .i64 1))), none⟩, 
   ⟨(some 10), (.load1 (.tmp 9)), none⟩, 
   ⟨(some 11), (.convInt .u32 (.tmp 10)), none⟩, 
   ⟨(some 12), (.bin .shl (.tmp 11) (.const (.int .u64 16))), none⟩, 
   ⟨(some 13), (.bin .or (.tmp 7) (.tmp 12)), none⟩, 
   ⟨(some 14), (.mv (.tmp 0)), none⟩, 
   ⟨(some 15), (.idxSl 1 (.tmp 14) (.const (.int .i64 2))), none⟩, 
   ⟨(some 16), (.load1 (.tmp 15)), none⟩, 
   ⟨(some 17), (.convInt .u32 (.tmp 16)), none⟩, 
   ⟨(some 18), (.bin .shl (.tmp 17) (.const (.int .u64 8))), none⟩, 
   ⟨(some 19), (.bin .or (.tmp 13) (.tmp 18)), none⟩, 
   ⟨(some 20), (.mv (.tmp 0)), none⟩, 
   ⟨(some 21), (.idxSl 1 (.tmp 20) (.const (.int .i64 3))), none⟩, 
   ⟨(some 22), (.load1 (.tmp 21)), none⟩, 
   ⟨(some 23), (.convInt .u32 (.tmp 22)), none⟩, 
   ⟨(some 24), (.bin .or (.tmp 19) (.tmp 23)), none⟩, 
   ⟨(some 2), (.mv (.tmp 24)), none⟩])
  .ret))
theorem c29 {args : Array Value} {h : Heap} {R : Ending → Heap → Prop} (ha : args.size ≤ 25) (hh : aexec Try.prog ac29 (abody [(.slot 2)] R) ⟨initFr args.toList, []⟩ h) : HCalls Try.prog 29 args h R :=
  hcalls_of Try.func29 rfl rfl (by kernel_rfl) (by kernel_rfl) ha hh
/-- 30: credenza/credenzaref02.word -/
def ac30 : ACode :=
 (.seq (.ops [
  ⟨(some 2), (.mv (.const (.int .u32 0))), none⟩])
 (.seq (.any [3, 4, 5, 6, 7, 8, 9, 10, 11, 12, 13, 14, 15, 16, 17, 18, 19, 20, 21, 22, 23, 24, 2] [
   ⟨(some 3), (.mv (.tmp 0)), none⟩, 
   ⟨(some 4), (.idxSl 1 (.tmp 3) (.const (.int .i64 0))), none⟩, 
   ⟨(some 5), (.load1 (.tmp 4)), none⟩, 
   ⟨(some 6), (.convInt .u32 (.tmp 5)), none⟩, 
   ⟨(some 7), (.bin .shl (.tmp 6) (.const (.int .u64 24))), none⟩, 
   ⟨(some 8), (.mv (.tmp 0)), none⟩, 
   ⟨(some 9), (.idxSl 1 (.tmp 8) (.const (.int .i64 1))), none⟩, 
   ⟨(some 10), (.load1 (.tmp 9)), none⟩, 
   ⟨(some 11), (.convInt .u32 (.tmp 10)), none⟩, 
   ⟨(some 12), (.bin .shl (.tmp 11) (.const (.int .u64 16))), none⟩, 
   ⟨(some 13), (.bin .or (.tmp 7) (.tmp 12)), none⟩, 
   ⟨(some 14), (.mv (.tmp 0)), none⟩, 
   ⟨(some 15), (.idxSl 1 (.tmp 14) (.const (.int .i64 2))), none⟩, 
   ⟨(some 16), (.load1 (.tmp 15)), none⟩, 
   ⟨(some 17), (.convInt .u32 (.tmp 16)), none⟩, 
   ⟨(some 18), (.bin .shl (.tmp 17) (.const (.int .u64 8))), none⟩, 
   ⟨(some 19), (.bin .or (.tmp 13) (.tmp 18)), none⟩, 
   ⟨(some 20), (.mv (.tmp 0)), none⟩, 
   ⟨(some 21), (.idxSl 1 (.tmp 20) (.const (.int .i64 3))), none⟩, 
   ⟨(some 22), (.load1 (.tmp 21)), none⟩, 
   ⟨(some 23), (.convInt .u32 (.tmp 22)), none⟩, 
   ⟨(some 24), (.bin .or (.tmp 19) (.tmp 23)), none⟩, 
   ⟨(some 2), (.mv (.tmp 24)), none⟩])
  .ret))
theorem c30 {args : Array Value} {h : Heap} {R : Ending → Heap → Prop} (ha : args.size ≤ 25) (hh : aexec Try.prog ac30 (abody [(.slot 2)] R) ⟨initFr args.toList, []⟩ h) : HCalls Try.prog 30 args h R :=
  hcalls_of Try.func30 rfl rfl (by kernel_rfl) (by kernel_rfl) ha hh
/-- 31: credenza/credenzaref02.four -/
def ac31 : ACode :=
 (.seq (.ops [
  ⟨(some 2), (.mv (.const (.slice none 0 0))), none⟩])
 (.seq (.ops [
   ⟨(some 3), (.mv (.tmp 0)), none⟩, 
   ⟨(some 4), (.bin .shr (.tmp 3) (.const (.int .u64 24))), none⟩, 
   ⟨(some 5), (.convInt .u8 (.tmp 4)), none⟩, 
   ⟨(some 6), (.mv (.tmp 0)), none⟩, 
   ⟨(some 7), (.bin .shr (.tmp 6) (.const (.int .u64 16))), none⟩, 
   ⟨(some 8), (.convInt .u8 (.tmp 7)), none⟩, 
   ⟨(some 9), (.mv (.tmp 0)), none⟩, 
   ⟨(some 10), (.bin .shr (.tmp 9) (.const (.int .u64 8))), none⟩, 
   ⟨(some 11), (.convInt .u8 (.tmp 10)), none⟩, 
   ⟨(some 12), (.mv (.tmp 0)), none⟩, 
   ⟨(some 13), (.convInt .u8 (.tmp 12)), none⟩, 
   ⟨(some 14), (.buildSlice 5 4 [(.int .u8 0), (.int .u8 0), (.int .u8 0), (.int .u8 0)] [(0, 1, (.tmp 5)), (1, 1, (.tmp 8)), (2, 1, (.tmp 11)), (3, 1, (.tmp 13))]), none⟩, 
   ⟨(some 2), (.mv (.tmp 14)), none⟩])
  .ret))
theorem c31 {args : Array Value} {h : Heap} {R : Ending → Heap → Prop} (ha : args.size ≤ 15) (hh : aexec Try.prog ac31 (abody [(.slot 2)] R) ⟨initFr args.toList, []⟩ h) : HCalls Try.prog 31 args h R :=
  hcalls_of Try.func31 rfl rfl (by kernel_rfl) (by kernel_rfl) ha hh
end Go.Proofs.Ytgmlbaikeepniaa.Hc
