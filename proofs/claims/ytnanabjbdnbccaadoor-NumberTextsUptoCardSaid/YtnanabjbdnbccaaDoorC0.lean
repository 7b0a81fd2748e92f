import Derived.Test.YtnanabjbdnbccaaDoorProg
import Derived.Test.YtnanabjbdnbccaaDoorHM
import Derived.Test.YtnanabjbdnbccaaDoorHP
import Derived.KernelRfl
set_option linter.unusedVariables false
namespace Go.Proofs.YtnanabjbdnbccaaDoor.Hc
open Go Go.H Go.Proofs
set_option maxRecDepth 100000
/-- 3: credenza/credenzalaw10.NumberTexts -/
def ac3 : ACode :=
 (.seq (.ops [
  ⟨(some 4), (.mv (.const (.bool false))), none⟩])
 (.seq (.ops [
   ⟨(some 10), (.mv (.tmp 1)), none⟩, 
   ⟨(some 11), (.callF 8 [(.tmp 10)]), none⟩, 
   ⟨(some 9), (.mv (.tmp 11)), none⟩, 
   ⟨(some 12), (.extract (.tmp 9) 0), none⟩, 
   ⟨(some 13), (.extract (.tmp 9) 1), none⟩, 
   ⟨(some 5), (.mv (.tmp 12)), none⟩, 
   ⟨(some 6), (.mv (.tmp 13)), none⟩])
  (.seq (.ops [
    ⟨(some 15), (.mv (.tmp 1)), none⟩, 
    ⟨(some 16), (.callF 9 [(.tmp 15)]), none⟩, 
    ⟨(some 14), (.mv (.tmp 16)), none⟩, 
    ⟨(some 17), (.extract (.tmp 14) 0), none⟩, 
    ⟨(some 18), (.extract (.tmp 14) 1), none⟩, 
    ⟨(some 7), (.mv (.tmp 17)), none⟩, 
    ⟨(some 8), (.mv (.tmp 18)), none⟩])
   (.seq (.ops [
     ⟨(some 19), (.callF 10 []), none⟩, 
     ⟨(some 20), (.mv (.tmp 19)), none⟩, 
     ⟨(some 21), (.mv (.tmp 0)), (some (20, true))⟩, 
     ⟨(some 22), (.callF 11 [(.tmp 21)]), (some (20, true))⟩, 
     ⟨(some 23), (.mv (.tmp 0)), (some (20, true))⟩, 
     ⟨(some 24), (.callF 12 [(.tmp 23)]), (some (20, true))⟩, 
     ⟨(some 25), (.bin .eql (.tmp 22) (.tmp 24)), (some (20, true))⟩, 
     ⟨(some 26), (.pick (.tmp 20) (.tmp 25) (.const (.bool false))), none⟩, 
     ⟨(some 27), (.mv (.tmp 26)), none⟩, 
     ⟨(some 28), (.mv (.tmp 5)), (some (27, true))⟩, 
     ⟨(some 29), (.mv (.tmp 6)), (some (27, true))⟩, 
     ⟨(some 30), (.mv (.tmp 7)), (some (27, true))⟩, 
     ⟨(some 31), (.mv (.tmp 8)), (some (27, true))⟩, 
     ⟨(some 32), (.callF 13 [(.tmp 28), (.tmp 29), (.tmp 30), (.tmp 31)]), (some (27, true))⟩, 
     ⟨(some 33), (.pick (.tmp 27) (.tmp 32) (.const (.bool false))), none⟩, 
     ⟨(some 4), (.mv (.tmp 33)), none⟩])
    .ret))))
theorem c3 {args : Array Value} {h : Heap} {R : Ending → Heap → Prop} (ha : args.size ≤ 34) (hh : aexec Tryd.prog ac3 (abody [(.slot 4)] R) ⟨initFr args.toList, []⟩ h) : HCalls Tryd.prog 3 args h R :=
  hcalls_of Tryd.func3 rfl rfl (by kernel_rfl) (by kernel_rfl) ha hh
/-- 4: credenza/credenzalaw10.NumberSpreads -/
def ac4 : ACode :=
 (.seq (.ops [
  ⟨(some 6), (.mv (.const (.bool false))), none⟩])
 (.seq (.ops [
   ⟨(some 22), (.callF 10 []), none⟩, 
   ⟨(some 7), (.mv (.tmp 22)), none⟩])
  (.seq (.ops [
    ⟨(some 24), (.mv (.tmp 1)), none⟩, 
    ⟨(some 25), (.mv (.tmp 2)), none⟩, 
    ⟨(some 26), (.callF 14 [(.tmp 24), (.tmp 25)]), none⟩, 
    ⟨(some 23), (.mv (.tmp 26)), none⟩, 
    ⟨(some 27), (.extract (.tmp 23) 0), none⟩, 
    ⟨(some 28), (.extract (.tmp 23) 1), none⟩, 
    ⟨(some 8), (.mv (.tmp 27)), none⟩, 
    ⟨(some 9), (.mv (.tmp 28)), none⟩])
   (.seq (.ops [
     ⟨(some 30), (.mv (.tmp 2)), none⟩, 
     ⟨(some 31), (.mv (.tmp 1)), none⟩, 
     ⟨(some 32), (.callF 14 [(.tmp 30), (.tmp 31)]), none⟩, 
     ⟨(some 29), (.mv (.tmp 32)), none⟩, 
     ⟨(some 33), (.extract (.tmp 29) 0), none⟩, 
     ⟨(some 34), (.extract (.tmp 29) 1), none⟩, 
     ⟨(some 10), (.mv (.tmp 33)), none⟩, 
     ⟨(some 11), (.mv (.tmp 34)), none⟩])
    (.seq (.seq (.ops [
       ⟨(some 35), (.mv (.tmp 8)), none⟩, 
       ⟨(some 36), (.mv (.tmp 10)), none⟩, 
       ⟨(some 37), (.bin .neq (.tmp 35) (.tmp 36)), none⟩, 
       ⟨(some 38), (.mv (.tmp 37)), none⟩, 
       ⟨(some 39), (.mv (.tmp 9)), (some (38, false))⟩, 
       ⟨(some 40), (.mv (.tmp 11)), (some (38, false))⟩, 
       ⟨(some 41), (.bin .neq (.tmp 39) (.tmp 40)), (some (38, false))⟩, 
       ⟨(some 42), (.pick (.tmp 38) (.const (.bool true)) (.tmp 41)), none⟩])
      (.cond (.tmp 42)
       (.seq (.ops [
         ⟨(some 6), (.mv (.const (.bool false))), none⟩])
        .ret)
       .skip))
     (.seq (.ops [
       ⟨(some 44), (.mv (.tmp 0)), none⟩, 
       ⟨(some 45), (.mv (.tmp 8)), none⟩, 
       ⟨(some 46), (.callF 15 [(.tmp 44), (.tmp 45)]), none⟩, 
       ⟨(some 43), (.mv (.tmp 46)), none⟩, 
       ⟨(some 47), (.extract (.tmp 43) 0), none⟩, 
       ⟨(some 48), (.extract (.tmp 43) 1), none⟩, 
       ⟨(some 12), (.mv (.tmp 47)), none⟩, 
       ⟨(some 13), (.mv (.tmp 48)), none⟩])
      (.seq (.ops [
        ⟨(some 50), (.mv (.tmp 8)), none⟩, 
        ⟨(some 51), (.mv (.tmp 0)), none⟩, 
        ⟨(some 52), (.callF 15 [(.tmp 50), (.tmp 51)]), none⟩, 
        ⟨(some 49), (.mv (.tmp 52)), none⟩, 
        ⟨(some 53), (.extract (.tmp 49) 0), none⟩, 
        ⟨(some 54), (.extract (.tmp 49) 1), none⟩, 
        ⟨(some 14), (.mv (.tmp 53)), none⟩, 
        ⟨(some 15), (.mv (.tmp 54)), none⟩])
       (.seq (.seq (.ops [
          ⟨(some 55), (.mv (.tmp 9)), none⟩, 
          ⟨(some 56), (.bin .neq (.tmp 55) (.const (.int .i64 0))), none⟩, 
          ⟨(some 57), (.mv (.tmp 56)), none⟩, 
          ⟨(some 58), (.mv (.tmp 13)), (some (57, false))⟩, 
          ⟨(some 59), (.bin .neq (.tmp 58) (.const (.int .i64 0))), (some (57, false))⟩, 
          ⟨(some 60), (.pick (.tmp 57) (.const (.bool true)) (.tmp 59)), none⟩])
         (.cond (.tmp 60)
          (.seq (.ops [
            ⟨(some 61), (.mv (.tmp 7)), none⟩, 
            ⟨(some 62), (.mv (.tmp 61)), none⟩, 
            ⟨(some 63), (.mv (.tmp 9)), (some (62, true))⟩, 
            ⟨(some 64), (.bin .neq (.tmp 63) (.const (.int .i64 0))), (some (62, true))⟩, 
            ⟨(some 65), (.mv (.tmp 64)), (some (62, true))⟩, 
            ⟨(some 66), (.mv (.tmp 13)), (some (65, false))⟩, 
            ⟨(some 67), (.mv (.tmp 15)), (some (65, false))⟩, 
            ⟨(some 68), (.bin .eql (.tmp 66) (.tmp 67)), (some (65, false))⟩, 
            ⟨(some 69), (.pick (.tmp 65) (.const (.bool true)) (.tmp 68)), (some (62, true))⟩, 
            ⟨(some 70), (.pick (.tmp 62) (.tmp 69) (.const (.bool false))), none⟩, 
            ⟨(some 6), (.mv (.tmp 70)), none⟩])
           .ret)
          .skip))
        (.seq (.ops [
          ⟨(some 72), (.mv (.tmp 0)), none⟩, 
          ⟨(some 73), (.mv (.tmp 1)), none⟩, 
          ⟨(some 74), (.callF 15 [(.tmp 72), (.tmp 73)]), none⟩, 
          ⟨(some 71), (.mv (.tmp 74)), none⟩, 
          ⟨(some 75), (.extract (.tmp 71) 0), none⟩, 
          ⟨(some 76), (.extract (.tmp 71) 1), none⟩, 
          ⟨(some 16), (.mv (.tmp 75)), none⟩, 
          ⟨(some 17), (.mv (.tmp 76)), none⟩])
         (.seq (.ops [
           ⟨(some 78), (.mv (.tmp 0)), none⟩, 
           ⟨(some 79), (.mv (.tmp 2)), none⟩, 
           ⟨(some 80), (.callF 15 [(.tmp 78), (.tmp 79)]), none⟩, 
           ⟨(some 77), (.mv (.tmp 80)), none⟩, 
           ⟨(some 81), (.extract (.tmp 77) 0), none⟩, 
           ⟨(some 82), (.extract (.tmp 77) 1), none⟩, 
           ⟨(some 18), (.mv (.tmp 81)), none⟩, 
           ⟨(some 19), (.mv (.tmp 82)), none⟩])
          (.seq (.seq (.ops [
             ⟨(some 83), (.mv (.tmp 17)), none⟩, 
             ⟨(some 84), (.bin .neq (.tmp 83) (.const (.int .i64 0))), none⟩, 
             ⟨(some 85), (.mv (.tmp 84)), none⟩, 
             ⟨(some 86), (.mv (.tmp 19)), (some (85, false))⟩, 
             ⟨(some 87), (.bin .neq (.tmp 86) (.const (.int .i64 0))), (some (85, false))⟩, 
             ⟨(some 88), (.pick (.tmp 85) (.const (.bool true)) (.tmp 87)), none⟩])
            (.cond (.tmp 88)
             (.seq (.ops [
               ⟨(some 89), (.mv (.tmp 7)), none⟩, 
               ⟨(some 90), (.mv (.tmp 89)), none⟩, 
               ⟨(some 91), (.mv (.tmp 12)), (some (90, true))⟩, 
               ⟨(some 92), (.mv (.tmp 14)), (some (90, true))⟩, 
               ⟨(some 93), (.bin .eql (.tmp 91) (.tmp 92)), (some (90, true))⟩, 
               ⟨(some 94), (.pick (.tmp 90) (.tmp 93) (.const (.bool false))), none⟩, 
               ⟨(some 6), (.mv (.tmp 94)), none⟩])
              .ret)
             .skip))
           (.seq (.ops [
             ⟨(some 96), (.mv (.tmp 16)), none⟩, 
             ⟨(some 97), (.mv (.tmp 18)), none⟩, 
             ⟨(some 98), (.callF 14 [(.tmp 96), (.tmp 97)]), none⟩, 
             ⟨(some 95), (.mv (.tmp 98)), none⟩, 
             ⟨(some 99), (.extract (.tmp 95) 0), none⟩, 
             ⟨(some 100), (.extract (.tmp 95) 1), none⟩, 
             ⟨(some 20), (.mv (.tmp 99)), none⟩, 
             ⟨(some 21), (.mv (.tmp 100)), none⟩])
            (.seq (.ops [
              ⟨(some 101), (.mv (.tmp 7)), none⟩, 
              ⟨(some 102), (.mv (.tmp 101)), none⟩, 
              ⟨(some 103), (.mv (.tmp 12)), (some (102, true))⟩, 
              ⟨(some 104), (.mv (.tmp 14)), (some (102, true))⟩, 
              ⟨(some 105), (.bin .eql (.tmp 103) (.tmp 104)), (some (102, true))⟩, 
              ⟨(some 106), (.pick (.tmp 102) (.tmp 105) (.const (.bool false))), none⟩, 
              ⟨(some 107), (.mv (.tmp 106)), none⟩, 
              ⟨(some 108), (.mv (.tmp 13)), (some (107, true))⟩, 
              ⟨(some 109), (.mv (.tmp 15)), (some (107, true))⟩, 
              ⟨(some 110), (.bin .eql (.tmp 108) (.tmp 109)), (some (107, true))⟩, 
              ⟨(some 111), (.pick (.tmp 107) (.tmp 110) (.const (.bool false))), none⟩, 
              ⟨(some 112), (.mv (.tmp 111)), none⟩, 
              ⟨(some 113), (.mv (.tmp 21)), (some (112, true))⟩, 
              ⟨(some 114), (.bin .eql (.tmp 113) (.const (.int .i64 0))), (some (112, true))⟩, 
              ⟨(some 115), (.pick (.tmp 112) (.tmp 114) (.const (.bool false))), none⟩, 
              ⟨(some 116), (.mv (.tmp 115)), none⟩, 
              ⟨(some 117), (.mv (.tmp 20)), (some (116, true))⟩, 
              ⟨(some 118), (.mv (.tmp 12)), (some (116, true))⟩, 
              ⟨(some 119), (.bin .eql (.tmp 117) (.tmp 118)), (some (116, true))⟩, 
              ⟨(some 120), (.pick (.tmp 116) (.tmp 119) (.const (.bool false))), none⟩, 
              ⟨(some 6), (.mv (.tmp 120)), none⟩])
             .ret)))))))))))))
theorem c4 {args : Array Value} {h : Heap} {R : Ending → Heap → Prop} (ha : args.size ≤ 121) (hh : aexec Tryd.prog ac4 (abody [(.slot 6)] R) ⟨initFr args.toList, []⟩ h) : HCalls Tryd.prog 4 args h R :=
  hcalls_of Tryd.func4 rfl rfl (by kernel_rfl) (by kernel_rfl) ha hh
/-- 5: credenza/credenzalaw10.NumberBack -/
def ac5 : ACode :=
 (.seq (.ops [
  ⟨(some 6), (.mv (.const (.bool false))), none⟩])
 (.seq (.ops [
   ⟨(some 13), (.callF 10 []), none⟩, 
   ⟨(some 7), (.mv (.tmp 13)), none⟩])
  (.seq (.ops [
    ⟨(some 14), (.build [(.string ⟨#[]⟩), (.string ⟨#[]⟩), (.string ⟨#[]⟩), (.string ⟨#[]⟩), (.string ⟨#[]⟩)] [(0, 1, (.const (.string ⟨#[]⟩))), (1, 1, (.const (.string ⟨#[0, 32]⟩))), (2, 1, (.const (.string ⟨#[0, 9]⟩))), (3, 1, (.const (.string ⟨#[0, 160]⟩))), (4, 1, (.const (.string ⟨#[254, 255, 0, 10]⟩)))]), none⟩, 
    ⟨(some 8), (.new 31 [(.string ⟨#[]⟩), (.string ⟨#[]⟩), (.string ⟨#[]⟩), (.string ⟨#[]⟩), (.string ⟨#[]⟩)]), none⟩, 
    ⟨none, (.storeN 5 (.tmp 8) (.tmp 14)), none⟩])
   (.seq (.ops [
     ⟨(some 15), (.mv (.tmp 1)), none⟩, 
     ⟨(some 16), (.bin .rem (.tmp 15) (.const (.int .i64 5))), none⟩, 
     ⟨(some 17), (.bin .add (.tmp 16) (.const (.int .i64 5))), none⟩, 
     ⟨(some 18), (.bin .rem (.tmp 17) (.const (.int .i64 5))), none⟩, 
     ⟨(some 9), (.mv (.tmp 18)), none⟩])
    (.seq (.ops [
      ⟨(some 19), (.mv (.tmp 2)), none⟩, 
      ⟨(some 20), (.bin .rem (.tmp 19) (.const (.int .i64 5))), none⟩, 
      ⟨(some 21), (.bin .add (.tmp 20) (.const (.int .i64 5))), none⟩, 
      ⟨(some 22), (.bin .rem (.tmp 21) (.const (.int .i64 5))), none⟩, 
      ⟨(some 10), (.mv (.tmp 22)), none⟩])
     (.seq (.seq (.any [24, 25, 26, 27, 28, 29, 30, 31, 32, 33, 34, 23, 35, 36, 11, 12] [
        ⟨(some 24), (.mv (.tmp 9)), none⟩, 
        ⟨(some 25), (.idxArrP 5 1 (.tmp 8) (.tmp 24)), none⟩, 
        ⟨(some 27), (.mv (.tmp 0)), none⟩, 
        ⟨(some 30), (.mv (.tmp 10)), none⟩, 
        ⟨(some 31), (.idxArrP 5 1 (.tmp 8) (.tmp 30)), none⟩])
       (.alt
        (.seq (.any [24, 25, 26, 27, 28, 29, 30, 31, 32, 33, 34, 23, 35, 36, 11, 12] [
          ⟨(some 26), (.load1 (.tmp 25)), none⟩])
         (.alt
          (.any [24, 25, 26, 27, 28, 29, 30, 31, 32, 33, 34, 23, 35, 36, 11, 12] [
           ⟨(some 28), (.callF 11 [(.tmp 27)]), none⟩, 
           ⟨(some 29), (.bin .add (.tmp 26) (.tmp 28)), none⟩, 
           ⟨(some 32), (.load1 (.tmp 31)), none⟩, 
           ⟨(some 33), (.bin .add (.tmp 29) (.tmp 32)), none⟩, 
           ⟨(some 34), (.callF 8 [(.tmp 33)]), none⟩, 
           ⟨(some 23), (.mv (.tmp 34)), none⟩, 
           ⟨(some 35), (.extract (.tmp 23) 0), none⟩, 
           ⟨(some 36), (.extract (.tmp 23) 1), none⟩, 
           ⟨(some 11), (.mv (.tmp 35)), none⟩, 
           ⟨(some 12), (.mv (.tmp 36)), none⟩])
          (.any [24, 25, 26, 27, 28, 29, 30, 31, 32, 33, 34, 23, 35, 36, 11, 12] [
           ⟨(some 32), (.load1 (.tmp 31)), none⟩, 
           ⟨(some 28), (.callF 11 [(.tmp 27)]), none⟩, 
           ⟨(some 29), (.bin .add (.tmp 26) (.tmp 28)), none⟩, 
           ⟨(some 33), (.bin .add (.tmp 29) (.tmp 32)), none⟩, 
           ⟨(some 34), (.callF 8 [(.tmp 33)]), none⟩, 
           ⟨(some 23), (.mv (.tmp 34)), none⟩, 
           ⟨(some 35), (.extract (.tmp 23) 0), none⟩, 
           ⟨(some 36), (.extract (.tmp 23) 1), none⟩, 
           ⟨(some 11), (.mv (.tmp 35)), none⟩, 
           ⟨(some 12), (.mv (.tmp 36)), none⟩])))
        (.alt
         (.any [24, 25, 26, 27, 28, 29, 30, 31, 32, 33, 34, 23, 35, 36, 11, 12] [
          ⟨(some 28), (.callF 11 [(.tmp 27)]), none⟩, 
          ⟨(some 26), (.load1 (.tmp 25)), none⟩, 
          ⟨(some 29), (.bin .add (.tmp 26) (.tmp 28)), none⟩, 
          ⟨(some 32), (.load1 (.tmp 31)), none⟩, 
          ⟨(some 33), (.bin .add (.tmp 29) (.tmp 32)), none⟩, 
          ⟨(some 34), (.callF 8 [(.tmp 33)]), none⟩, 
          ⟨(some 23), (.mv (.tmp 34)), none⟩, 
          ⟨(some 35), (.extract (.tmp 23) 0), none⟩, 
          ⟨(some 36), (.extract (.tmp 23) 1), none⟩, 
          ⟨(some 11), (.mv (.tmp 35)), none⟩, 
          ⟨(some 12), (.mv (.tmp 36)), none⟩])
         (.seq (.any [24, 25, 26, 27, 28, 29, 30, 31, 32, 33, 34, 23, 35, 36, 11, 12] [
           ⟨(some 32), (.load1 (.tmp 31)), none⟩])
          (.alt
           (.any [24, 25, 26, 27, 28, 29, 30, 31, 32, 33, 34, 23, 35, 36, 11, 12] [
            ⟨(some 26), (.load1 (.tmp 25)), none⟩, 
            ⟨(some 28), (.callF 11 [(.tmp 27)]), none⟩, 
            ⟨(some 29), (.bin .add (.tmp 26) (.tmp 28)), none⟩, 
            ⟨(some 33), (.bin .add (.tmp 29) (.tmp 32)), none⟩, 
            ⟨(some 34), (.callF 8 [(.tmp 33)]), none⟩, 
            ⟨(some 23), (.mv (.tmp 34)), none⟩, 
            ⟨(some 35), (.extract (.tmp 23) 0), none⟩, 
            ⟨(some 36), (.extract (.tmp 23) 1), none⟩, 
            ⟨(some 11), (.mv (.tmp 35)), none⟩, 
            ⟨(some 12), (.mv (.tmp 36)), none⟩])
           (.any [24, 25, 26, 27, 28, 29, 30, 31, 32, 33, 34, 23, 35, 36, 11, 12] [
            ⟨(some 28), (.callF 11 [(.tmp 27)]), none⟩, 
            ⟨(some 26), (.load1 (.tmp 25)), none⟩, 
            ⟨(some 29), (.bin .add (.tmp 26) (.tmp 28)), none⟩, 
            ⟨(some 33), (.bin .add (.tmp 29) (.tmp 32)), none⟩, 
            ⟨(some 34), (.callF 8 [(.tmp 33)]), none⟩, 
            ⟨(some 23), (.mv (.tmp 34)), none⟩, 
            ⟨(some 35), (.extract (.tmp 23) 0), none⟩, 
            ⟨(some 36), (.extract (.tmp 23) 1), none⟩, 
            ⟨(some 11), (.mv (.tmp 35)), none⟩, 
            ⟨(some 12), (.mv (.tmp 36)), none⟩]))))))
      (.seq (.seq (.ops [
         ⟨(some 37), (.mv (.tmp 0)), none⟩, 
         ⟨(some 38), (.callF 16 [(.tmp 37)]), none⟩, 
         ⟨(some 39), (.bin .neq (.tmp 38) (.const (.int .i64 0))), none⟩])
        (.cond (.tmp 39)
         (.seq (.ops [
           ⟨(some 40), (.mv (.tmp 7)), none⟩, 
           ⟨(some 41), (.mv (.tmp 40)), none⟩, 
           ⟨(some 42), (.mv (.tmp 12)), (some (41, true))⟩, 
           ⟨(some 43), (.bin .eql (.tmp 42) (.const (.int .i64 100))), (some (41, true))⟩, 
           ⟨(some 44), (.pick (.tmp 41) (.tmp 43) (.const (.bool false))), none⟩, 
           ⟨(some 6), (.mv (.tmp 44)), none⟩])
          .ret)
         .skip))
       (.seq (.ops [
         ⟨(some 45), (.mv (.tmp 7)), none⟩, 
         ⟨(some 46), (.mv (.tmp 45)), none⟩, 
         ⟨(some 47), (.mv (.tmp 12)), (some (46, true))⟩, 
         ⟨(some 48), (.bin .eql (.tmp 47) (.const (.int .i64 0))), (some (46, true))⟩, 
         ⟨(some 49), (.pick (.tmp 46) (.tmp 48) (.const (.bool false))), none⟩, 
         ⟨(some 50), (.mv (.tmp 49)), none⟩, 
         ⟨(some 51), (.mv (.tmp 11)), (some (50, true))⟩, 
         ⟨(some 52), (.mv (.tmp 0)), (some (50, true))⟩, 
         ⟨(some 53), (.bin .eql (.tmp 51) (.tmp 52)), (some (50, true))⟩, 
         ⟨(some 54), (.pick (.tmp 50) (.tmp 53) (.const (.bool false))), none⟩, 
         ⟨(some 6), (.mv (.tmp 54)), none⟩])
        .ret))))))))
theorem c5 {args : Array Value} {h : Heap} {R : Ending → Heap → Prop} (ha : args.size ≤ 55) (hh : aexec Tryd.prog ac5 (abody [(.slot 6)] R) ⟨initFr args.toList, []⟩ h) : HCalls Tryd.prog 5 args h R :=
  hcalls_of Tryd.func5 rfl rfl (by kernel_rfl) (by kernel_rfl) ha hh
/-- 6: credenza/credenzalaw10.NumberReckons -/
def ac6 : ACode :=
 (.seq (.ops [
  ⟨(some 4), (.mv (.const (.bool false))), none⟩])
 (.seq (.ops [
   ⟨(some 11), (.mv (.tmp 0)), none⟩, 
   ⟨(some 12), (.mv (.tmp 1)), none⟩, 
   ⟨(some 13), (.callF 14 [(.tmp 11), (.tmp 12)]), none⟩, 
   ⟨(some 10), (.mv (.tmp 13)), none⟩, 
   ⟨(some 14), (.extract (.tmp 10) 0), none⟩, 
   ⟨(some 15), (.extract (.tmp 10) 1), none⟩, 
   ⟨(some 5), (.mv (.tmp 14)), none⟩, 
   ⟨(some 6), (.mv (.tmp 15)), none⟩])
  (.seq (.ops [
    ⟨(some 17), (.mv (.tmp 0)), none⟩, 
    ⟨(some 18), (.mv (.tmp 1)), none⟩, 
    ⟨(some 19), (.callF 17 [(.tmp 17), (.tmp 18)]), none⟩, 
    ⟨(some 16), (.mv (.tmp 19)), none⟩, 
    ⟨(some 20), (.extract (.tmp 16) 0), none⟩, 
    ⟨(some 21), (.extract (.tmp 16) 1), none⟩, 
    ⟨(some 7), (.mv (.tmp 20)), none⟩, 
    ⟨(some 8), (.mv (.tmp 21)), none⟩])
   (.seq (.ops [
     ⟨(some 22), (.mv (.tmp 5)), none⟩, 
     ⟨(some 23), (.mv (.tmp 6)), none⟩, 
     ⟨(some 24), (.mv (.tmp 7)), none⟩, 
     ⟨(some 25), (.mv (.tmp 8)), none⟩, 
     ⟨(some 26), (.callF 13 [(.tmp 22), (.tmp 23), (.tmp 24), (.tmp 25)]), none⟩, 
     ⟨(some 27), (.mv (.tmp 26)), none⟩, 
     ⟨(some 28), (.mv (.tmp 0)), (some (27, true))⟩, 
     ⟨(some 29), (.callF 16 [(.tmp 28)]), (some (27, true))⟩, 
     ⟨(some 30), (.mv (.tmp 0)), (some (27, true))⟩, 
     ⟨(some 31), (.callF 18 [(.tmp 30)]), (some (27, true))⟩, 
     ⟨(some 32), (.bin .eql (.tmp 29) (.tmp 31)), (some (27, true))⟩, 
     ⟨(some 33), (.pick (.tmp 27) (.tmp 32) (.const (.bool false))), none⟩, 
     ⟨(some 9), (.mv (.tmp 33)), none⟩])
    (.seq (.ops [
      ⟨(some 35), (.mv (.tmp 0)), none⟩, 
      ⟨(some 36), (.mv (.tmp 1)), none⟩, 
      ⟨(some 37), (.callF 19 [(.tmp 35), (.tmp 36)]), none⟩, 
      ⟨(some 34), (.mv (.tmp 37)), none⟩, 
      ⟨(some 38), (.extract (.tmp 34) 0), none⟩, 
      ⟨(some 39), (.extract (.tmp 34) 1), none⟩, 
      ⟨(some 5), (.mv (.tmp 38)), none⟩, 
      ⟨(some 6), (.mv (.tmp 39)), none⟩])
     (.seq (.ops [
       ⟨(some 41), (.mv (.tmp 0)), none⟩, 
       ⟨(some 42), (.mv (.tmp 1)), none⟩, 
       ⟨(some 43), (.callF 20 [(.tmp 41), (.tmp 42)]), none⟩, 
       ⟨(some 40), (.mv (.tmp 43)), none⟩, 
       ⟨(some 44), (.extract (.tmp 40) 0), none⟩, 
       ⟨(some 45), (.extract (.tmp 40) 1), none⟩, 
       ⟨(some 7), (.mv (.tmp 44)), none⟩, 
       ⟨(some 8), (.mv (.tmp 45)), none⟩])
      (.seq (.ops [
        ⟨(some 46), (.mv (.tmp 9)), none⟩, 
        ⟨(some 47), (.mv (.tmp 46)), none⟩, 
        ⟨(some 48), (.mv (.tmp 5)), (some (47, true))⟩, 
        ⟨(some 49), (.mv (.tmp 6)), (some (47, true))⟩, 
        ⟨(some 50), (.mv (.tmp 7)), (some (47, true))⟩, 
        ⟨(some 51), (.mv (.tmp 8)), (some (47, true))⟩, 
        ⟨(some 52), (.callF 13 [(.tmp 48), (.tmp 49), (.tmp 50), (.tmp 51)]), (some (47, true))⟩, 
        ⟨(some 53), (.pick (.tmp 47) (.tmp 52) (.const (.bool false))), none⟩, 
        ⟨(some 9), (.mv (.tmp 53)), none⟩])
       (.seq (.ops [
         ⟨(some 55), (.mv (.tmp 0)), none⟩, 
         ⟨(some 56), (.mv (.tmp 1)), none⟩, 
         ⟨(some 57), (.callF 15 [(.tmp 55), (.tmp 56)]), none⟩, 
         ⟨(some 54), (.mv (.tmp 57)), none⟩, 
         ⟨(some 58), (.extract (.tmp 54) 0), none⟩, 
         ⟨(some 59), (.extract (.tmp 54) 1), none⟩, 
         ⟨(some 5), (.mv (.tmp 58)), none⟩, 
         ⟨(some 6), (.mv (.tmp 59)), none⟩])
        (.seq (.ops [
          ⟨(some 61), (.mv (.tmp 0)), none⟩, 
          ⟨(some 62), (.mv (.tmp 1)), none⟩, 
          ⟨(some 63), (.callF 21 [(.tmp 61), (.tmp 62)]), none⟩, 
          ⟨(some 60), (.mv (.tmp 63)), none⟩, 
          ⟨(some 64), (.extract (.tmp 60) 0), none⟩, 
          ⟨(some 65), (.extract (.tmp 60) 1), none⟩, 
          ⟨(some 7), (.mv (.tmp 64)), none⟩, 
          ⟨(some 8), (.mv (.tmp 65)), none⟩])
         (.seq (.ops [
           ⟨(some 66), (.mv (.tmp 9)), none⟩, 
           ⟨(some 67), (.mv (.tmp 66)), none⟩, 
           ⟨(some 68), (.mv (.tmp 5)), (some (67, true))⟩, 
           ⟨(some 69), (.mv (.tmp 6)), (some (67, true))⟩, 
           ⟨(some 70), (.mv (.tmp 7)), (some (67, true))⟩, 
           ⟨(some 71), (.mv (.tmp 8)), (some (67, true))⟩, 
           ⟨(some 72), (.callF 13 [(.tmp 68), (.tmp 69), (.tmp 70), (.tmp 71)]), (some (67, true))⟩, 
           ⟨(some 73), (.pick (.tmp 67) (.tmp 72) (.const (.bool false))), none⟩, 
           ⟨(some 9), (.mv (.tmp 73)), none⟩])
          (.seq (.ops [
            ⟨(some 75), (.mv (.tmp 0)), none⟩, 
            ⟨(some 76), (.mv (.tmp 1)), none⟩, 
            ⟨(some 77), (.callF 22 [(.tmp 75), (.tmp 76)]), none⟩, 
            ⟨(some 74), (.mv (.tmp 77)), none⟩, 
            ⟨(some 78), (.extract (.tmp 74) 0), none⟩, 
            ⟨(some 79), (.extract (.tmp 74) 1), none⟩, 
            ⟨(some 5), (.mv (.tmp 78)), none⟩, 
            ⟨(some 6), (.mv (.tmp 79)), none⟩])
           (.seq (.ops [
             ⟨(some 81), (.mv (.tmp 0)), none⟩, 
             ⟨(some 82), (.mv (.tmp 1)), none⟩, 
             ⟨(some 83), (.callF 23 [(.tmp 81), (.tmp 82)]), none⟩, 
             ⟨(some 80), (.mv (.tmp 83)), none⟩, 
             ⟨(some 84), (.extract (.tmp 80) 0), none⟩, 
             ⟨(some 85), (.extract (.tmp 80) 1), none⟩, 
             ⟨(some 7), (.mv (.tmp 84)), none⟩, 
             ⟨(some 8), (.mv (.tmp 85)), none⟩])
            (.seq (.ops [
              ⟨(some 86), (.mv (.tmp 9)), none⟩, 
              ⟨(some 87), (.mv (.tmp 86)), none⟩, 
              ⟨(some 88), (.mv (.tmp 5)), (some (87, true))⟩, 
              ⟨(some 89), (.mv (.tmp 6)), (some (87, true))⟩, 
              ⟨(some 90), (.mv (.tmp 7)), (some (87, true))⟩, 
              ⟨(some 91), (.mv (.tmp 8)), (some (87, true))⟩, 
              ⟨(some 92), (.callF 13 [(.tmp 88), (.tmp 89), (.tmp 90), (.tmp 91)]), (some (87, true))⟩, 
              ⟨(some 93), (.pick (.tmp 87) (.tmp 92) (.const (.bool false))), none⟩, 
              ⟨(some 9), (.mv (.tmp 93)), none⟩])
             (.seq (.ops [
               ⟨(some 95), (.mv (.tmp 0)), none⟩, 
               ⟨(some 96), (.mv (.tmp 1)), none⟩, 
               ⟨(some 97), (.callF 24 [(.tmp 95), (.tmp 96)]), none⟩, 
               ⟨(some 94), (.mv (.tmp 97)), none⟩, 
               ⟨(some 98), (.extract (.tmp 94) 0), none⟩, 
               ⟨(some 99), (.extract (.tmp 94) 1), none⟩, 
               ⟨(some 5), (.mv (.tmp 98)), none⟩, 
               ⟨(some 6), (.mv (.tmp 99)), none⟩])
              (.seq (.ops [
                ⟨(some 101), (.mv (.tmp 0)), none⟩, 
                ⟨(some 102), (.mv (.tmp 1)), none⟩, 
                ⟨(some 103), (.callF 25 [(.tmp 101), (.tmp 102)]), none⟩, 
                ⟨(some 100), (.mv (.tmp 103)), none⟩, 
                ⟨(some 104), (.extract (.tmp 100) 0), none⟩, 
                ⟨(some 105), (.extract (.tmp 100) 1), none⟩, 
                ⟨(some 7), (.mv (.tmp 104)), none⟩, 
                ⟨(some 8), (.mv (.tmp 105)), none⟩])
               (.seq (.ops [
                 ⟨(some 106), (.callF 10 []), none⟩, 
                 ⟨(some 107), (.mv (.tmp 106)), none⟩, 
                 ⟨(some 108), (.mv (.tmp 9)), (some (107, true))⟩, 
                 ⟨(some 109), (.pick (.tmp 107) (.tmp 108) (.const (.bool false))), none⟩, 
                 ⟨(some 110), (.mv (.tmp 109)), none⟩, 
                 ⟨(some 111), (.mv (.tmp 5)), (some (110, true))⟩, 
                 ⟨(some 112), (.mv (.tmp 6)), (some (110, true))⟩, 
                 ⟨(some 113), (.mv (.tmp 7)), (some (110, true))⟩, 
                 ⟨(some 114), (.mv (.tmp 8)), (some (110, true))⟩, 
                 ⟨(some 115), (.callF 13 [(.tmp 111), (.tmp 112), (.tmp 113), (.tmp 114)]), (some (110, true))⟩, 
                 ⟨(some 116), (.pick (.tmp 110) (.tmp 115) (.const (.bool false))), none⟩, 
                 ⟨(some 4), (.mv (.tmp 116)), none⟩])
                .ret))))))))))))))))
theorem c6 {args : Array Value} {h : Heap} {R : Ending → Heap → Prop} (ha : args.size ≤ 117) (hh : aexec Tryd.prog ac6 (abody [(.slot 4)] R) ⟨initFr args.toList, []⟩ h) : HCalls Tryd.prog 6 args h R :=
  hcalls_of Tryd.func6 rfl rfl (by kernel_rfl) (by kernel_rfl) ha hh
/-- 7: credenza/credenzalaw10.NumberUndoes -/
def ac7 : ACode :=
 (.seq (.ops [
  ⟨(some 4), (.mv (.const (.bool false))), none⟩])
 (.seq (.ops [
   ⟨(some 22), (.callF 10 []), none⟩, 
   ⟨(some 5), (.mv (.tmp 22)), none⟩])
  (.seq (.seq (.ops [
     ⟨(some 23), (.mv (.tmp 0)), none⟩, 
     ⟨(some 24), (.callF 16 [(.tmp 23)]), none⟩, 
     ⟨(some 25), (.bin .neq (.tmp 24) (.const (.int .i64 0))), none⟩, 
     ⟨(some 26), (.mv (.tmp 25)), none⟩, 
     ⟨(some 27), (.mv (.tmp 1)), (some (26, false))⟩, 
     ⟨(some 28), (.callF 16 [(.tmp 27)]), (some (26, false))⟩, 
     ⟨(some 29), (.bin .neq (.tmp 28) (.const (.int .i64 0))), (some (26, false))⟩, 
     ⟨(some 30), (.pick (.tmp 26) (.const (.bool true)) (.tmp 29)), none⟩])
    (.cond (.tmp 30)
     (.seq (.ops [
       ⟨(some 31), (.mv (.tmp 5)), none⟩, 
       ⟨(some 4), (.mv (.tmp 31)), none⟩])
      .ret)
     .skip))
   (.seq (.seq (.ops [
      ⟨(some 33), (.mv (.tmp 0)), none⟩, 
      ⟨(some 34), (.mv (.tmp 1)), none⟩, 
      ⟨(some 35), (.callF 14 [(.tmp 33), (.tmp 34)]), none⟩, 
      ⟨(some 32), (.mv (.tmp 35)), none⟩, 
      ⟨(some 36), (.extract (.tmp 32) 0), none⟩, 
      ⟨(some 37), (.extract (.tmp 32) 1), none⟩, 
      ⟨(some 6), (.mv (.tmp 36)), none⟩, 
      ⟨(some 7), (.mv (.tmp 37)), none⟩])
     (.seq (.ops [
       ⟨(some 38), (.mv (.tmp 7)), none⟩, 
       ⟨(some 39), (.bin .eql (.tmp 38) (.const (.int .i64 0))), none⟩])
      (.cond (.tmp 39)
       (.seq (.ops [
         ⟨(some 41), (.mv (.tmp 6)), none⟩, 
         ⟨(some 42), (.mv (.tmp 1)), none⟩, 
         ⟨(some 43), (.callF 19 [(.tmp 41), (.tmp 42)]), none⟩, 
         ⟨(some 40), (.mv (.tmp 43)), none⟩, 
         ⟨(some 44), (.extract (.tmp 40) 0), none⟩, 
         ⟨(some 45), (.extract (.tmp 40) 1), none⟩, 
         ⟨(some 8), (.mv (.tmp 44)), none⟩, 
         ⟨(some 9), (.mv (.tmp 45)), none⟩])
        (.seq (.ops [
          ⟨(some 46), (.mv (.tmp 9)), none⟩, 
          ⟨(some 47), (.bin .neq (.tmp 46) (.const (.int .i64 0))), none⟩, 
          ⟨(some 48), (.mv (.tmp 47)), none⟩, 
          ⟨(some 49), (.mv (.tmp 8)), (some (48, false))⟩, 
          ⟨(some 50), (.mv (.tmp 0)), (some (48, false))⟩, 
          ⟨(some 51), (.bin .neq (.tmp 49) (.tmp 50)), (some (48, false))⟩, 
          ⟨(some 52), (.pick (.tmp 48) (.const (.bool true)) (.tmp 51)), none⟩])
         (.cond (.tmp 52)
          (.seq (.ops [
            ⟨(some 4), (.mv (.const (.bool false))), none⟩])
           .ret)
          .skip)))
       .skip)))
    (.seq (.seq (.ops [
       ⟨(some 54), (.mv (.tmp 0)), none⟩, 
       ⟨(some 55), (.mv (.tmp 1)), none⟩, 
       ⟨(some 56), (.callF 15 [(.tmp 54), (.tmp 55)]), none⟩, 
       ⟨(some 53), (.mv (.tmp 56)), none⟩, 
       ⟨(some 57), (.extract (.tmp 53) 0), none⟩, 
       ⟨(some 58), (.extract (.tmp 53) 1), none⟩, 
       ⟨(some 10), (.mv (.tmp 57)), none⟩, 
       ⟨(some 11), (.mv (.tmp 58)), none⟩])
      (.seq (.ops [
        ⟨(some 59), (.mv (.tmp 11)), none⟩, 
        ⟨(some 60), (.bin .eql (.tmp 59) (.const (.int .i64 0))), none⟩, 
        ⟨(some 61), (.mv (.tmp 60)), none⟩, 
        ⟨(some 62), (.mv (.tmp 1)), (some (61, true))⟩, 
        ⟨(some 63), (.bin .neq (.tmp 62) (.const (.int .i64 0))), (some (61, true))⟩, 
        ⟨(some 64), (.pick (.tmp 61) (.tmp 63) (.const (.bool false))), none⟩])
       (.cond (.tmp 64)
        (.seq (.ops [
          ⟨(some 66), (.mv (.tmp 10)), none⟩, 
          ⟨(some 67), (.mv (.tmp 1)), none⟩, 
          ⟨(some 68), (.callF 22 [(.tmp 66), (.tmp 67)]), none⟩, 
          ⟨(some 65), (.mv (.tmp 68)), none⟩, 
          ⟨(some 69), (.extract (.tmp 65) 0), none⟩, 
          ⟨(some 70), (.extract (.tmp 65) 1), none⟩, 
          ⟨(some 12), (.mv (.tmp 69)), none⟩, 
          ⟨(some 13), (.mv (.tmp 70)), none⟩])
         (.seq (.ops [
           ⟨(some 71), (.mv (.tmp 13)), none⟩, 
           ⟨(some 72), (.bin .neq (.tmp 71) (.const (.int .i64 0))), none⟩, 
           ⟨(some 73), (.mv (.tmp 72)), none⟩, 
           ⟨(some 74), (.mv (.tmp 12)), (some (73, false))⟩, 
           ⟨(some 75), (.mv (.tmp 0)), (some (73, false))⟩, 
           ⟨(some 76), (.bin .neq (.tmp 74) (.tmp 75)), (some (73, false))⟩, 
           ⟨(some 77), (.pick (.tmp 73) (.const (.bool true)) (.tmp 76)), none⟩])
          (.cond (.tmp 77)
           (.seq (.ops [
             ⟨(some 4), (.mv (.const (.bool false))), none⟩])
            .ret)
           .skip)))
        .skip)))
     (.seq (.ops [
       ⟨(some 79), (.mv (.tmp 0)), none⟩, 
       ⟨(some 80), (.mv (.tmp 1)), none⟩, 
       ⟨(some 81), (.callF 24 [(.tmp 79), (.tmp 80)]), none⟩, 
       ⟨(some 78), (.mv (.tmp 81)), none⟩, 
       ⟨(some 82), (.extract (.tmp 78) 0), none⟩, 
       ⟨(some 83), (.extract (.tmp 78) 1), none⟩, 
       ⟨(some 14), (.mv (.tmp 82)), none⟩, 
       ⟨(some 15), (.mv (.tmp 83)), none⟩])
      (.seq (.seq (.ops [
         ⟨(some 84), (.mv (.tmp 1)), none⟩, 
         ⟨(some 85), (.bin .eql (.tmp 84) (.const (.int .i64 0))), none⟩])
        (.cond (.tmp 85)
         (.seq (.ops [
           ⟨(some 86), (.mv (.tmp 5)), none⟩, 
           ⟨(some 87), (.mv (.tmp 86)), none⟩, 
           ⟨(some 88), (.mv (.tmp 15)), (some (87, true))⟩, 
           ⟨(some 89), (.bin .eql (.tmp 88) (.const (.int .i64 100))), (some (87, true))⟩, 
           ⟨(some 90), (.pick (.tmp 87) (.tmp 89) (.const (.bool false))), none⟩, 
           ⟨(some 4), (.mv (.tmp 90)), none⟩])
          .ret)
         .skip))
       (.seq (.ops [
         ⟨(some 92), (.mv (.tmp 0)), none⟩, 
         ⟨(some 93), (.mv (.tmp 14)), none⟩, 
         ⟨(some 94), (.callF 19 [(.tmp 92), (.tmp 93)]), none⟩, 
         ⟨(some 91), (.mv (.tmp 94)), none⟩, 
         ⟨(some 95), (.extract (.tmp 91) 0), none⟩, 
         ⟨(some 96), (.extract (.tmp 91) 1), none⟩, 
         ⟨(some 16), (.mv (.tmp 95)), none⟩, 
         ⟨(some 17), (.mv (.tmp 96)), none⟩])
        (.seq (.ops [
          ⟨(some 98), (.mv (.tmp 16)), none⟩, 
          ⟨(some 99), (.mv (.tmp 1)), none⟩, 
          ⟨(some 100), (.callF 22 [(.tmp 98), (.tmp 99)]), none⟩, 
          ⟨(some 97), (.mv (.tmp 100)), none⟩, 
          ⟨(some 101), (.extract (.tmp 97) 0), none⟩, 
          ⟨(some 102), (.extract (.tmp 97) 1), none⟩, 
          ⟨(some 18), (.mv (.tmp 101)), none⟩, 
          ⟨(some 19), (.mv (.tmp 102)), none⟩])
         (.seq (.ops [
           ⟨(some 104), (.mv (.tmp 18)), none⟩, 
           ⟨(some 105), (.mv (.tmp 1)), none⟩, 
           ⟨(some 106), (.callF 15 [(.tmp 104), (.tmp 105)]), none⟩, 
           ⟨(some 103), (.mv (.tmp 106)), none⟩, 
           ⟨(some 107), (.extract (.tmp 103) 0), none⟩, 
           ⟨(some 108), (.extract (.tmp 103) 1), none⟩, 
           ⟨(some 20), (.mv (.tmp 107)), none⟩, 
           ⟨(some 21), (.mv (.tmp 108)), none⟩])
          (.seq (.ops [
            ⟨(some 109), (.mv (.tmp 5)), none⟩, 
            ⟨(some 110), (.mv (.tmp 109)), none⟩, 
            ⟨(some 111), (.mv (.tmp 15)), (some (110, true))⟩, 
            ⟨(some 112), (.bin .eql (.tmp 111) (.const (.int .i64 0))), (some (110, true))⟩, 
            ⟨(some 113), (.pick (.tmp 110) (.tmp 112) (.const (.bool false))), none⟩, 
            ⟨(some 114), (.mv (.tmp 113)), none⟩, 
            ⟨(some 115), (.mv (.tmp 17)), (some (114, true))⟩, 
            ⟨(some 116), (.bin .eql (.tmp 115) (.const (.int .i64 0))), (some (114, true))⟩, 
            ⟨(some 117), (.pick (.tmp 114) (.tmp 116) (.const (.bool false))), none⟩, 
            ⟨(some 118), (.mv (.tmp 117)), none⟩, 
            ⟨(some 119), (.mv (.tmp 19)), (some (118, true))⟩, 
            ⟨(some 120), (.bin .eql (.tmp 119) (.const (.int .i64 0))), (some (118, true))⟩, 
            ⟨(some 121), (.pick (.tmp 118) (.tmp 120) (.const (.bool false))), none⟩, 
            ⟨(some 122), (.mv (.tmp 121)), none⟩, 
            ⟨(some 123), (.mv (.tmp 21)), (some (122, true))⟩, 
            ⟨(some 124), (.bin .eql (.tmp 123) (.const (.int .i64 0))), (some (122, true))⟩, 
            ⟨(some 125), (.pick (.tmp 122) (.tmp 124) (.const (.bool false))), none⟩, 
            ⟨(some 126), (.mv (.tmp 125)), none⟩, 
            ⟨(some 127), (.mv (.tmp 20)), (some (126, true))⟩, 
            ⟨(some 128), (.mv (.tmp 16)), (some (126, true))⟩, 
            ⟨(some 129), (.bin .eql (.tmp 127) (.tmp 128)), (some (126, true))⟩, 
            ⟨(some 130), (.pick (.tmp 126) (.tmp 129) (.const (.bool false))), none⟩, 
            ⟨(some 131), (.mv (.tmp 130)), none⟩, 
            ⟨(some 132), (.mv (.tmp 14)), (some (131, true))⟩, 
            ⟨(some 133), (.bin .eql (.tmp 132) (.const (.int .i64 0))), (some (131, true))⟩, 
            ⟨(some 134), (.mv (.tmp 133)), (some (131, true))⟩, 
            ⟨(some 135), (.mv (.tmp 14)), (some (134, false))⟩, 
            ⟨(some 136), (.bin .lss (.tmp 135) (.const (.int .i64 0))), (some (134, false))⟩, 
            ⟨(some 137), (.mv (.tmp 0)), (some (134, false))⟩, 
            ⟨(some 138), (.bin .lss (.tmp 137) (.const (.int .i64 0))), (some (134, false))⟩, 
            ⟨(some 139), (.eqB false (.tmp 136) (.tmp 138)), (some (134, false))⟩, 
            ⟨(some 140), (.pick (.tmp 134) (.const (.bool true)) (.tmp 139)), (some (131, true))⟩, 
            ⟨(some 141), (.pick (.tmp 131) (.tmp 140) (.const (.bool false))), none⟩, 
            ⟨(some 4), (.mv (.tmp 141)), none⟩])
           .ret)))))))))))
theorem c7 {args : Array Value} {h : Heap} {R : Ending → Heap → Prop} (ha : args.size ≤ 142) (hh : aexec Tryd.prog ac7 (abody [(.slot 4)] R) ⟨initFr args.toList, []⟩ h) : HCalls Tryd.prog 7 args h R :=
  hcalls_of Tryd.func7 rfl rfl (by kernel_rfl) (by kernel_rfl) ha hh
/-- 8: credenza/number.Read -/
def ac8 : ACode :=
 (.seq (.ops [
  ⟨(some 2), (.mv (.const (.int .i64 0))), none⟩, 
  ⟨(some 3), (.mv (.const (.int .i64 0))), none⟩])
 (.seq (.seq (.ops [
    ⟨(some 15), (.mv (.tmp 0)), none⟩, 
    ⟨(some 16), (.callF 26 [(.tmp 15)]), none⟩, 
    ⟨(some 17), (.un .not (.tmp 16)), none⟩])
   (.cond (.tmp 17)
    (.seq (.ops [
      ⟨(some 2), (.mv (.const (.int .i64 0))), none⟩, 
      ⟨(some 3), (.mv (.const (.int .i64 100))), none⟩])
     .ret)
    .skip))
  (.seq (.ops [
    ⟨(some 4), (.mv (.const (.slice none 0 0))), none⟩])
   (.seq (.seq (.ops [
      ⟨(some 18), (.mv (.tmp 0)), none⟩, 
      ⟨(some 19), (.callF 27 [(.tmp 18)]), none⟩, 
      ⟨(some 20), (.mv (.const (.int .i64 0))), none⟩])
     (.block 0
      (.loop
       (.seq (.ops [
         ⟨(some 21), (.bin .lss (.tmp 20) (.tmp 19)), none⟩])
        (.seq (.cond (.tmp 21)
          .skip
          (.exit 0))
         (.seq (.block 1
           (.seq (.ops [
             ⟨(some 22), (.mv (.tmp 20)), none⟩, 
             ⟨(some 5), (.mv (.tmp 22)), none⟩])
            (.ops [
             ⟨(some 23), (.mv (.tmp 4)), none⟩, 
             ⟨(some 24), (.mv (.tmp 0)), none⟩, 
             ⟨(some 25), (.mv (.tmp 5)), none⟩, 
             ⟨(some 26), (.callF 28 [(.tmp 24), (.tmp 25)]), none⟩, 
             ⟨(some 27), (.buildSlice 3 1 [(.int .i64 0)] [(0, 1, (.tmp 26))]), none⟩, 
             ⟨(some 28), (.append 3 1 8 [(.int .i64 0)] (.tmp 23) (.tmp 27)), none⟩, 
             ⟨(some 4), (.mv (.tmp 28)), none⟩])))
          (.ops [
           ⟨(some 29), (.bin .add (.tmp 20) (.const (.int .i64 1))), none⟩, 
           ⟨(some 20), (.mv (.tmp 29)), none⟩])))))))
    (.seq (.ops [
      ⟨(some 6), (.mv (.func 29)), none⟩])
     (.seq (.ops [
       ⟨(some 30), (.mv (.tmp 4)), none⟩, 
       ⟨(some 31), (.mv (.tmp 6)), none⟩, 
       ⟨(some 32), (.callF 31 [(.tmp 30), (.tmp 31)]), none⟩, 
       ⟨(some 7), (.mv (.tmp 32)), none⟩])
      (.seq (.seq (.ops [
         ⟨(some 33), (.mv (.tmp 7)), none⟩, 
         ⟨(some 34), (.bin .lss (.tmp 33) (.const (.int .i64 0))), none⟩])
        (.cond (.tmp 34)
         (.seq (.ops [
           ⟨(some 2), (.mv (.const (.int .i64 0))), none⟩, 
           ⟨(some 3), (.mv (.const (.int .i64 0))), none⟩])
          .ret)
         .skip))
       (.seq (.ops [
         ⟨(some 35), (.mv (.tmp 4)), none⟩, 
         ⟨(some 36), (.mv (.tmp 7)), none⟩, 
         ⟨(some 37), (.sliceSl 1 (.tmp 35) (some (.tmp 36)) none none), none⟩, 
         ⟨(some 4), (.mv (.tmp 37)), none⟩])
        (.seq (.block 2
          (.loop
           (.seq (.seq (.ops [
              ⟨(some 38), (.mv (.tmp 4)), none⟩, 
              ⟨(some 39), (.mv (.tmp 4)), none⟩, 
              ⟨(some 40), (.lenSl (.tmp 39)), none⟩, 
              ⟨(some 41), (.bin .sub (.tmp 40) (.const (.int .i64 1))), none⟩, 
              ⟨(some 42), (.idxSl 1 (.tmp 38) (.tmp 41)), none⟩, 
              ⟨(some 43), (.load1 (.tmp 42)), none⟩, 
              ⟨(some 44), (.callF 30 [(.tmp 43)]), none⟩])
             (.cond (.tmp 44)
              .skip
              (.exit 2)))
            (.block 3
             (.ops [
              ⟨(some 45), (.mv (.tmp 4)), none⟩, 
              ⟨(some 46), (.mv (.tmp 4)), none⟩, 
              ⟨(some 47), (.lenSl (.tmp 46)), none⟩, 
              ⟨(some 48), (.bin .sub (.tmp 47) (.const (.int .i64 1))), none⟩, 
              ⟨(some 49), (.sliceSl 1 (.tmp 45) none (some (.tmp 48)) none), none⟩, 
              ⟨(some 4), (.mv (.tmp 49)), none⟩])))))
         (.seq (.ops [
           ⟨(some 50), (.mv (.tmp 4)), none⟩, 
           ⟨(some 51), (.lenSl (.tmp 50)), none⟩, 
           ⟨(some 52), (.mkSlice 5 1 1 [(.int .u8 0)] (.tmp 51) (.tmp 51)), none⟩, 
           ⟨(some 8), (.mv (.tmp 52)), none⟩])
          (.seq (.seq (.ops [
             ⟨(some 53), (.mv (.tmp 4)), none⟩, 
             ⟨(some 54), (.lenSl (.tmp 53)), none⟩, 
             ⟨(some 55), (.mv (.const (.int .i64 0))), none⟩])
            (.block 4
             (.loop
              (.seq (.ops [
                ⟨(some 56), (.bin .lss (.tmp 55) (.tmp 54)), none⟩])
               (.seq (.cond (.tmp 56)
                 .skip
                 (.exit 4))
                (.seq (.block 5
                  (.seq (.ops [
                    ⟨(some 57), (.mv (.tmp 55)), none⟩, 
                    ⟨(some 58), (.idxSl 1 (.tmp 53) (.tmp 55)), none⟩, 
                    ⟨(some 59), (.load1 (.tmp 58)), none⟩, 
                    ⟨(some 9), (.mv (.tmp 57)), none⟩, 
                    ⟨(some 10), (.mv (.tmp 59)), none⟩])
                   (.seq (.seq (.ops [
                      ⟨(some 60), (.mv (.tmp 10)), none⟩, 
                      ⟨(some 61), (.bin .gtr (.tmp 60) (.const (.int .i64 127))), none⟩, 
                      ⟨(some 62), (.mv (.tmp 61)), none⟩, 
                      ⟨(some 63), (.mv (.tmp 10)), (some (62, false))⟩, 
                      ⟨(some 64), (.bin .eql (.tmp 63) (.const (.int .i64 95))), (some (62, false))⟩, 
                      ⟨(some 65), (.pick (.tmp 62) (.const (.bool true)) (.tmp 64)), none⟩])
                     (.cond (.tmp 65)
                      (.seq (.ops [
                        ⟨(some 2), (.mv (.const (.int .i64 0))), none⟩, 
                        ⟨(some 3), (.mv (.const (.int .i64 100))), none⟩])
                       .ret)
                      .skip))
                    (.ops [
                     ⟨(some 66), (.mv (.tmp 8)), none⟩, 
                     ⟨(some 67), (.mv (.tmp 9)), none⟩, 
                     ⟨(some 68), (.mv (.tmp 10)), none⟩, 
                     ⟨(some 69), (.convInt .u8 (.tmp 68)), none⟩, 
                     ⟨(some 70), (.idxSl 1 (.tmp 66) (.tmp 67)), none⟩, 
                     ⟨none, (.store1 (.tmp 70) (.tmp 69)), none⟩]))))
                 (.ops [
                  ⟨(some 71), (.bin .add (.tmp 55) (.const (.int .i64 1))), none⟩, 
                  ⟨(some 55), (.mv (.tmp 71)), none⟩])))))))
           (.seq (.ops [
             ⟨(some 72), (.mv (.tmp 8)), none⟩, 
             ⟨(some 73), (.strOfBytes (.tmp 72)), none⟩, 
             ⟨(some 11), (.mv (.tmp 73)), none⟩, 
             ⟨(some 12), (.mv (.const (.int .i64 10))), none⟩])
            (.seq (.seq (.ops [
               ⟨(some 74), (.mv (.tmp 11)), none⟩, 
               ⟨(some 75), (.lenStr (.tmp 74)), none⟩, 
               ⟨(some 76), (.bin .gtr (.tmp 75) (.const (.int .i64 2))), none⟩, 
               ⟨(some 77), (.mv (.tmp 76)), none⟩, 
               ⟨(some 78), (.mv (.tmp 11)), (some (77, true))⟩, 
               ⟨(some 79), (.sliceStr (.tmp 78) none (some (.const (.int .i64 2)))), (some (77, true))⟩, 
               ⟨(some 80), (.bin .eql (.tmp 79) (.const (.string ⟨#[48, 120]⟩))), (some (77, true))⟩, 
               ⟨(some 81), (.mv (.tmp 80)), (some (77, true))⟩, 
               ⟨(some 82), (.mv (.tmp 11)), (some (81, false))⟩, 
               ⟨(some 83), (.sliceStr (.tmp 82) none (some (.const (.int .i64 2)))), (some (81, false))⟩, 
               ⟨(some 84), (.bin .eql (.tmp 83) (.const (.string ⟨#[48, 88]⟩))), (some (81, false))⟩, 
               ⟨(some 85), (.pick (.tmp 81) (.const (.bool true)) (.tmp 84)), (some (77, true))⟩, 
               ⟨(some 86), (.pick (.tmp 77) (.tmp 85) (.const (.bool false))), none⟩])
              (.cond (.tmp 86)
               (.seq (.ops [
                 ⟨(some 87), (.mv (.tmp 11)), none⟩, 
                 ⟨(some 88), (.sliceStr (.tmp 87) (some (.const (.int .i64 2))) none), none⟩, 
                 ⟨(some 11), (.mv (.tmp 88)), none⟩, 
                 ⟨(some 12), (.mv (.const (.int .i64 16))), none⟩])
                (.seq (.ops [
                  ⟨(some 89), (.mv (.tmp 11)), none⟩, 
                  ⟨(some 90), (.idxStr (.tmp 89) (.const (.int .i64 0))), none⟩, 
                  ⟨(some 91), (.bin .eql (.tmp 90) (.const (.int .u8 45))), none⟩, 
                  ⟨(some 92), (.mv (.tmp 91)), none⟩, 
                  ⟨(some 93), (.mv (.tmp 11)), (some (92, false))⟩, 
                  ⟨(some 94), (.idxStr (.tmp 93) (.const (.int .i64 0))), (some (92, false))⟩, 
                  ⟨(some 95), (.bin .eql (.tmp 94) (.const (.int .u8 43))), (some (92, false))⟩, 
                  ⟨(some 96), (.pick (.tmp 92) (.const (.bool true)) (.tmp 95)), none⟩])
                 (.cond (.tmp 96)
                  (.seq (.ops [
                    ⟨(some 2), (.mv (.const (.int .i64 0))), none⟩, 
                    ⟨(some 3), (.mv (.const (.int .i64 100))), none⟩])
                   .ret)
                  .skip)))
               .skip))
             (.seq (.ops [
               ⟨(some 98), (.mv (.tmp 11)), none⟩, 
               ⟨(some 99), (.mv (.tmp 12)), none⟩, 
               ⟨(some 100), (.callF 32 [(.tmp 98), (.tmp 99), (.const (.int .i64 64))]), none⟩, 
               ⟨(some 97), (.mv (.tmp 100)), none⟩, 
               ⟨(some 101), (.extract (.tmp 97) 0), none⟩, 
               ⟨(some 102), (.extract (.tmp 97) 1), none⟩, 
               ⟨(some 13), (.mv (.tmp 101)), none⟩, 
               ⟨(some 14), (.mv (.tmp 102)), none⟩])
              (.seq (.ops [
                ⟨(some 103), (.mv (.tmp 13)), none⟩, 
                ⟨(some 104), (.mv (.tmp 14)), none⟩, 
                ⟨(some 105), (.isNil 0 false (.tmp 104)), none⟩, 
                ⟨(some 106), (.callF 33 [(.tmp 103), (.tmp 105)]), none⟩, 
                ⟨(some 107), (.extract (.tmp 106) 0), none⟩, 
                ⟨(some 108), (.extract (.tmp 106) 1), none⟩, 
                ⟨(some 2), (.mv (.tmp 107)), none⟩, 
                ⟨(some 3), (.mv (.tmp 108)), none⟩])
               .ret)))))))))))))))
theorem c8 {args : Array Value} {h : Heap} {R : Ending → Heap → Prop} (ha : args.size ≤ 109) (hh : aexec Tryd.prog ac8 (abody [(.slot 2), (.slot 3)] R) ⟨initFr args.toList, []⟩ h) : HCalls Tryd.prog 8 args h R :=
  hcalls_of Tryd.func8 rfl rfl (by kernel_rfl) (by kernel_rfl) ha hh
/-- 9: credenza/credenzaref10.Read -/
def ac9 : ACode :=
 (.seq (.ops [
  ⟨(some 2), (.mv (.const (.int .i64 0))), none⟩, 
  ⟨(some 3), (.mv (.const (.int .i64 0))), none⟩])
 (.seq (.seq (.ops [
    ⟨(some 10), (.mv (.tmp 0)), none⟩, 
    ⟨(some 11), (.callF 34 [(.tmp 10)]), none⟩, 
    ⟨(some 12), (.un .not (.tmp 11)), none⟩])
   (.cond (.tmp 12)
    (.seq (.ops [
      ⟨(some 2), (.mv (.const (.int .i64 0))), none⟩, 
      ⟨(some 3), (.mv (.const (.int .i64 100))), none⟩])
     .ret)
    .skip))
  (.seq (.ops [
    ⟨(some 13), (.mv (.tmp 0)), none⟩, 
    ⟨(some 14), (.callF 35 [(.tmp 13)]), none⟩, 
    ⟨(some 4), (.mv (.tmp 14)), none⟩])
   (.seq (.block 0
     (.loop
      (.seq (.seq (.ops [
         ⟨(some 15), (.mv (.tmp 4)), none⟩, 
         ⟨(some 16), (.lenSl (.tmp 15)), none⟩, 
         ⟨(some 17), (.bin .gtr (.tmp 16) (.const (.int .i64 0))), none⟩, 
         ⟨(some 18), (.mv (.tmp 17)), none⟩, 
         ⟨(some 19), (.mv (.tmp 4)), (some (18, true))⟩, 
         ⟨(some 20), (.idxSl 1 (.tmp 19) (.const (.int .i64 0))), (some (18, true))⟩, 
         ⟨(some 21), (.load1 (.tmp 20)), (some (18, true))⟩, 
         ⟨(some 22), (.callF 36 [(.tmp 21)]), (some (18, true))⟩, 
         ⟨(some 23), (.pick (.tmp 18) (.tmp 22) (.const (.bool false))), none⟩])
        (.cond (.tmp 23)
         .skip
         (.exit 0)))
       (.block 1
        (.ops [
         ⟨(some 24), (.mv (.tmp 4)), none⟩, 
         ⟨(some 25), (.sliceSl 1 (.tmp 24) (some (.const (.int .i64 1))) none none), none⟩, 
         ⟨(some 4), (.mv (.tmp 25)), none⟩])))))
    (.seq (.block 2
      (.loop
       (.seq (.seq (.ops [
          ⟨(some 26), (.mv (.tmp 4)), none⟩, 
          ⟨(some 27), (.lenSl (.tmp 26)), none⟩, 
          ⟨(some 28), (.bin .gtr (.tmp 27) (.const (.int .i64 0))), none⟩, 
          ⟨(some 29), (.mv (.tmp 28)), none⟩, 
          ⟨(some 30), (.mv (.tmp 4)), (some (29, true))⟩, 
          ⟨(some 31), (.mv (.tmp 4)), (some (29, true))⟩, 
          ⟨(some 32), (.lenSl (.tmp 31)), (some (29, true))⟩, 
          ⟨(some 33), (.bin .sub (.tmp 32) (.const (.int .i64 1))), (some (29, true))⟩, 
          ⟨(some 34), (.idxSl 1 (.tmp 30) (.tmp 33)), (some (29, true))⟩, 
          ⟨(some 35), (.load1 (.tmp 34)), (some (29, true))⟩, 
          ⟨(some 36), (.callF 36 [(.tmp 35)]), (some (29, true))⟩, 
          ⟨(some 37), (.pick (.tmp 29) (.tmp 36) (.const (.bool false))), none⟩])
         (.cond (.tmp 37)
          .skip
          (.exit 2)))
        (.block 3
         (.ops [
          ⟨(some 38), (.mv (.tmp 4)), none⟩, 
          ⟨(some 39), (.mv (.tmp 4)), none⟩, 
          ⟨(some 40), (.lenSl (.tmp 39)), none⟩, 
          ⟨(some 41), (.bin .sub (.tmp 40) (.const (.int .i64 1))), none⟩, 
          ⟨(some 42), (.sliceSl 1 (.tmp 38) none (some (.tmp 41)) none), none⟩, 
          ⟨(some 4), (.mv (.tmp 42)), none⟩])))))
     (.seq (.seq (.ops [
        ⟨(some 43), (.mv (.tmp 4)), none⟩, 
        ⟨(some 44), (.lenSl (.tmp 43)), none⟩, 
        ⟨(some 45), (.bin .eql (.tmp 44) (.const (.int .i64 0))), none⟩])
       (.cond (.tmp 45)
        (.seq (.ops [
          ⟨(some 2), (.mv (.const (.int .i64 0))), none⟩, 
          ⟨(some 3), (.mv (.const (.int .i64 0))), none⟩])
         .ret)
        .skip))
      (.seq (.ops [
        ⟨(some 5), (.mv (.const (.int .i64 10))), none⟩])
       (.seq (.ops [
         ⟨(some 6), (.mv (.const (.int .i64 1))), none⟩])
        (.seq (.block 4
          (.seq (.ops [
            ⟨(some 47), (.mv (.tmp 4)), none⟩, 
            ⟨(some 48), (.idxSl 1 (.tmp 47) (.const (.int .i64 0))), none⟩, 
            ⟨(some 49), (.load1 (.tmp 48)), none⟩, 
            ⟨(some 50), (.bin .eql (.tmp 49) (.const (.int .i64 43))), none⟩, 
            ⟨(some 51), (.mv (.tmp 50)), none⟩, 
            ⟨(some 52), (.mv (.tmp 4)), (some (51, false))⟩, 
            ⟨(some 53), (.idxSl 1 (.tmp 52) (.const (.int .i64 0))), (some (51, false))⟩, 
            ⟨(some 54), (.load1 (.tmp 53)), (some (51, false))⟩, 
            ⟨(some 55), (.bin .eql (.tmp 54) (.const (.int .i64 45))), (some (51, false))⟩, 
            ⟨(some 56), (.pick (.tmp 51) (.const (.bool true)) (.tmp 55)), none⟩, 
            ⟨(some 46), (.mv (.tmp 56)), none⟩])
           (.cond (.tmp 46)
            (.seq (.seq (.ops [
               ⟨(some 57), (.mv (.tmp 4)), none⟩, 
               ⟨(some 58), (.idxSl 1 (.tmp 57) (.const (.int .i64 0))), none⟩, 
               ⟨(some 59), (.load1 (.tmp 58)), none⟩, 
               ⟨(some 60), (.bin .eql (.tmp 59) (.const (.int .i64 45))), none⟩])
              (.cond (.tmp 60)
               (.ops [
                ⟨(some 6), (.mv (.const (.int .i64 (-1)))), none⟩])
               .skip))
             (.ops [
              ⟨(some 61), (.mv (.tmp 4)), none⟩, 
              ⟨(some 62), (.sliceSl 1 (.tmp 61) (some (.const (.int .i64 1))) none none), none⟩, 
              ⟨(some 4), (.mv (.tmp 62)), none⟩]))
            (.seq (.ops [
              ⟨(some 64), (.mv (.tmp 4)), none⟩, 
              ⟨(some 65), (.lenSl (.tmp 64)), none⟩, 
              ⟨(some 66), (.bin .gtr (.tmp 65) (.const (.int .i64 1))), none⟩, 
              ⟨(some 67), (.mv (.tmp 66)), none⟩, 
              ⟨(some 68), (.mv (.tmp 4)), (some (67, true))⟩, 
              ⟨(some 69), (.idxSl 1 (.tmp 68) (.const (.int .i64 0))), (some (67, true))⟩, 
              ⟨(some 70), (.load1 (.tmp 69)), (some (67, true))⟩, 
              ⟨(some 71), (.bin .eql (.tmp 70) (.const (.int .i64 48))), (some (67, true))⟩, 
              ⟨(some 72), (.pick (.tmp 67) (.tmp 71) (.const (.bool false))), none⟩, 
              ⟨(some 73), (.mv (.tmp 72)), none⟩, 
              ⟨(some 74), (.mv (.tmp 4)), (some (73, true))⟩, 
              ⟨(some 75), (.idxSl 1 (.tmp 74) (.const (.int .i64 1))), (some (73, true))⟩, 
              ⟨(some 76), (.load1 (.tmp 75)), (some (73, true))⟩, 
              ⟨(some 77), (.bin .eql (.tmp 76) (.const (.int .i64 120))), (some (73, true))⟩, 
              ⟨(some 78), (.mv (.tmp 77)), (some (73, true))⟩, 
              ⟨(some 79), (.mv (.tmp 4)), (some (78, false))⟩, 
              ⟨(some 80), (.idxSl 1 (.tmp 79) (.const (.int .i64 1))), (some (78, false))⟩, 
              ⟨(some 81), (.load1 (.tmp 80)), (some (78, false))⟩, 
              ⟨(some 82), (.bin .eql (.tmp 81) (.const (.int .i64 88))), (some (78, false))⟩, 
              ⟨(some 83), (.pick (.tmp 78) (.const (.bool true)) (.tmp 82)), (some (73, true))⟩, 
              ⟨(some 84), (.pick (.tmp 73) (.tmp 83) (.const (.bool false))), none⟩, 
              ⟨(some 63), (.mv (.tmp 84)), none⟩])
             (.cond (.tmp 63)
              (.seq (.ops [
                ⟨(some 5), (.mv (.const (.int .i64 16))), none⟩])
               (.ops [
                ⟨(some 85), (.mv (.tmp 4)), none⟩, 
                ⟨(some 86), (.sliceSl 1 (.tmp 85) (some (.const (.int .i64 2))) none none), none⟩, 
                ⟨(some 4), (.mv (.tmp 86)), none⟩]))
              .skip)))))
         (.seq (.seq (.ops [
            ⟨(some 87), (.mv (.tmp 4)), none⟩, 
            ⟨(some 88), (.lenSl (.tmp 87)), none⟩, 
            ⟨(some 89), (.bin .eql (.tmp 88) (.const (.int .i64 0))), none⟩])
           (.cond (.tmp 89)
            (.seq (.ops [
              ⟨(some 2), (.mv (.const (.int .i64 0))), none⟩, 
              ⟨(some 3), (.mv (.const (.int .i64 100))), none⟩])
             .ret)
            .skip))
          (.seq (.ops [
            ⟨(some 7), (.mv (.const (.int .i64 0))), none⟩])
           (.seq (.seq (.ops [
              ⟨(some 90), (.mv (.tmp 4)), none⟩, 
              ⟨(some 91), (.lenSl (.tmp 90)), none⟩, 
              ⟨(some 92), (.mv (.const (.int .i64 0))), none⟩])
             (.block 5
              (.loop
               (.seq (.ops [
                 ⟨(some 93), (.bin .lss (.tmp 92) (.tmp 91)), none⟩])
                (.seq (.cond (.tmp 93)
                  .skip
                  (.exit 5))
                 (.seq (.block 6
                   (.seq (.ops [
                     ⟨(some 94), (.idxSl 1 (.tmp 90) (.tmp 92)), none⟩, 
                     ⟨(some 95), (.load1 (.tmp 94)), none⟩, 
                     ⟨(some 9), (.mv (.tmp 95)), none⟩])
                    (.seq (.seq (.ops [
                       ⟨(some 96), (.mv (.tmp 9)), none⟩, 
                       ⟨(some 97), (.callF 37 [(.tmp 96)]), none⟩, 
                       ⟨(some 98), (.mv (.tmp 5)), none⟩, 
                       ⟨(some 99), (.bin .geq (.tmp 97) (.tmp 98)), none⟩, 
                       ⟨(some 100), (.mv (.tmp 99)), none⟩, 
                       ⟨(some 101), (.mv (.tmp 7)), (some (100, false))⟩, 
                       ⟨(some 102), (.bin .gtr (.tmp 101) (.const (.int .i64 9007199254740991))), (some (100, false))⟩, 
                       ⟨(some 103), (.pick (.tmp 100) (.const (.bool true)) (.tmp 102)), none⟩])
                      (.cond (.tmp 103)
                       (.seq (.ops [
                         ⟨(some 2), (.mv (.const (.int .i64 0))), none⟩, 
                         ⟨(some 3), (.mv (.const (.int .i64 100))), none⟩])
                        .ret)
                       .skip))
                     (.ops [
                      ⟨(some 104), (.mv (.tmp 5)), none⟩, 
                      ⟨(some 105), (.mv (.tmp 7)), none⟩, 
                      ⟨(some 106), (.bin .mul (.tmp 104) (.tmp 105)), none⟩, 
                      ⟨(some 107), (.mv (.tmp 9)), none⟩, 
                      ⟨(some 108), (.callF 37 [(.tmp 107)]), none⟩, 
                      ⟨(some 109), (.bin .add (.tmp 106) (.tmp 108)), none⟩, 
                      ⟨(some 7), (.mv (.tmp 109)), none⟩]))))
                  (.ops [
                   ⟨(some 110), (.bin .add (.tmp 92) (.const (.int .i64 1))), none⟩, 
                   ⟨(some 92), (.mv (.tmp 110)), none⟩])))))))
            (.seq (.ops [
              ⟨(some 111), (.mv (.tmp 6)), none⟩, 
              ⟨(some 112), (.mv (.tmp 7)), none⟩, 
              ⟨(some 113), (.bin .mul (.tmp 111) (.tmp 112)), none⟩, 
              ⟨(some 114), (.callF 38 [(.tmp 113), (.const (.slice none 0 0))]), none⟩, 
              ⟨(some 115), (.extract (.tmp 114) 0), none⟩, 
              ⟨(some 116), (.extract (.tmp 114) 1), none⟩, 
              ⟨(some 2), (.mv (.tmp 115)), none⟩, 
              ⟨(some 3), (.mv (.tmp 116)), none⟩])
             .ret)))))))))))))
theorem c9 {args : Array Value} {h : Heap} {R : Ending → Heap → Prop} (ha : args.size ≤ 117) (hh : aexec Tryd.prog ac9 (abody [(.slot 2), (.slot 3)] R) ⟨initFr args.toList, []⟩ h) : HCalls Tryd.prog 9 args h R :=
  hcalls_of Tryd.func9 rfl rfl (by kernel_rfl) (by kernel_rfl) ha hh
/-- 10: credenza/credenzalaw10.live -/
def ac10 : ACode :=
 (.seq (.ops [
  ⟨(some 0), (.mv (.const (.bool false))), none⟩])
 (.seq (.ops [
   ⟨(some 12), (.callF 15 [(.const (.int .i64 134217728)), (.const (.int .i64 67108864))]), none⟩, 
   ⟨(some 11), (.mv (.tmp 12)), none⟩, 
   ⟨(some 13), (.extract (.tmp 11) 0), none⟩, 
   ⟨(some 14), (.extract (.tmp 11) 1), none⟩, 
   ⟨(some 1), (.mv (.tmp 13)), none⟩, 
   ⟨(some 2), (.mv (.tmp 14)), none⟩])
  (.seq (.ops [
    ⟨(some 16), (.callF 22 [(.const (.int .i64 7)), (.const (.int .i64 2))]), none⟩, 
    ⟨(some 15), (.mv (.tmp 16)), none⟩, 
    ⟨(some 17), (.extract (.tmp 15) 0), none⟩, 
    ⟨(some 18), (.extract (.tmp 15) 1), none⟩, 
    ⟨(some 3), (.mv (.tmp 17)), none⟩, 
    ⟨(some 4), (.mv (.tmp 18)), none⟩])
   (.seq (.ops [
     ⟨(some 20), (.callF 24 [(.const (.int .i64 (-7))), (.const (.int .i64 2))]), none⟩, 
     ⟨(some 19), (.mv (.tmp 20)), none⟩, 
     ⟨(some 21), (.extract (.tmp 19) 0), none⟩, 
     ⟨(some 22), (.extract (.tmp 19) 1), none⟩, 
     ⟨(some 5), (.mv (.tmp 21)), none⟩, 
     ⟨(some 6), (.mv (.tmp 22)), none⟩])
    (.seq (.ops [
      ⟨(some 24), (.callF 39 [(.const (.string ⟨#[32, 45, 48, 49, 50, 32]⟩))]), none⟩, 
      ⟨(some 25), (.callF 8 [(.tmp 24)]), none⟩, 
      ⟨(some 23), (.mv (.tmp 25)), none⟩, 
      ⟨(some 26), (.extract (.tmp 23) 0), none⟩, 
      ⟨(some 27), (.extract (.tmp 23) 1), none⟩, 
      ⟨(some 7), (.mv (.tmp 26)), none⟩, 
      ⟨(some 8), (.mv (.tmp 27)), none⟩])
     (.seq (.ops [
       ⟨(some 29), (.callF 14 [(.const (.int .i64 2)), (.const (.int .i64 3))]), none⟩, 
       ⟨(some 28), (.mv (.tmp 29)), none⟩, 
       ⟨(some 30), (.extract (.tmp 28) 0), none⟩, 
       ⟨(some 31), (.extract (.tmp 28) 1), none⟩, 
       ⟨(some 9), (.mv (.tmp 30)), none⟩, 
       ⟨(some 10), (.mv (.tmp 31)), none⟩])
      (.seq (.ops [
        ⟨(some 32), (.mv (.tmp 2)), none⟩, 
        ⟨(some 33), (.bin .eql (.tmp 32) (.const (.int .i64 100))), none⟩, 
        ⟨(some 34), (.mv (.tmp 33)), none⟩, 
        ⟨(some 35), (.mv (.tmp 4)), (some (34, true))⟩, 
        ⟨(some 36), (.bin .eql (.tmp 35) (.const (.int .i64 100))), (some (34, true))⟩, 
        ⟨(some 37), (.pick (.tmp 34) (.tmp 36) (.const (.bool false))), none⟩, 
        ⟨(some 38), (.mv (.tmp 37)), none⟩, 
        ⟨(some 39), (.mv (.tmp 5)), (some (38, true))⟩, 
        ⟨(some 40), (.bin .eql (.tmp 39) (.const (.int .i64 (-1)))), (some (38, true))⟩, 
        ⟨(some 41), (.pick (.tmp 38) (.tmp 40) (.const (.bool false))), none⟩, 
        ⟨(some 42), (.mv (.tmp 41)), none⟩, 
        ⟨(some 43), (.mv (.tmp 6)), (some (42, true))⟩, 
        ⟨(some 44), (.bin .eql (.tmp 43) (.const (.int .i64 0))), (some (42, true))⟩, 
        ⟨(some 45), (.pick (.tmp 42) (.tmp 44) (.const (.bool false))), none⟩, 
        ⟨(some 46), (.mv (.tmp 45)), none⟩, 
        ⟨(some 47), (.mv (.tmp 7)), (some (46, true))⟩, 
        ⟨(some 48), (.bin .eql (.tmp 47) (.const (.int .i64 (-12)))), (some (46, true))⟩, 
        ⟨(some 49), (.pick (.tmp 46) (.tmp 48) (.const (.bool false))), none⟩, 
        ⟨(some 50), (.mv (.tmp 49)), none⟩, 
        ⟨(some 51), (.mv (.tmp 8)), (some (50, true))⟩, 
        ⟨(some 52), (.bin .eql (.tmp 51) (.const (.int .i64 0))), (some (50, true))⟩, 
        ⟨(some 53), (.pick (.tmp 50) (.tmp 52) (.const (.bool false))), none⟩, 
        ⟨(some 54), (.mv (.tmp 53)), none⟩, 
        ⟨(some 55), (.mv (.tmp 9)), (some (54, true))⟩, 
        ⟨(some 56), (.bin .eql (.tmp 55) (.const (.int .i64 5))), (some (54, true))⟩, 
        ⟨(some 57), (.pick (.tmp 54) (.tmp 56) (.const (.bool false))), none⟩, 
        ⟨(some 58), (.mv (.tmp 57)), none⟩, 
        ⟨(some 59), (.mv (.tmp 10)), (some (58, true))⟩, 
        ⟨(some 60), (.bin .eql (.tmp 59) (.const (.int .i64 0))), (some (58, true))⟩, 
        ⟨(some 61), (.pick (.tmp 58) (.tmp 60) (.const (.bool false))), none⟩, 
        ⟨(some 62), (.mv (.tmp 61)), none⟩, 
        ⟨(some 63), (.callF 11 [(.const (.int .i64 (-12)))]), (some (62, true))⟩, 
        ⟨(some 64), (.callF 39 [(.const (.string ⟨#[45, 49, 50]⟩))]), (some (62, true))⟩, 
        ⟨(some 65), (.bin .eql (.tmp 63) (.tmp 64)), (some (62, true))⟩, 
        ⟨(some 66), (.pick (.tmp 62) (.tmp 65) (.const (.bool false))), none⟩, 
        ⟨(some 0), (.mv (.tmp 66)), none⟩])
       .ret)))))))
theorem c10 {args : Array Value} {h : Heap} {R : Ending → Heap → Prop} (ha : args.size ≤ 67) (hh : aexec Tryd.prog ac10 (abody [(.slot 0)] R) ⟨initFr args.toList, []⟩ h) : HCalls Tryd.prog 10 args h R :=
  hcalls_of Tryd.func10 rfl rfl (by kernel_rfl) (by kernel_rfl) ha hh
/-- 11: credenza/number.Text -/
def ac11 : ACode :=
 (.seq (.ops [
  ⟨(some 2), (.mv (.const (.string ⟨#[]⟩))), none⟩])
 (.seq (.ops [
   ⟨(some 6), (.mv (.tmp 0)), none⟩, 
   ⟨(some 7), (.callF 41 [(.tmp 6), (.const (.int .i64 10))]), none⟩, 
   ⟨(some 8), (.callF 40 [(.tmp 7)]), none⟩, 
   ⟨(some 5), (.mv (.tmp 8)), none⟩, 
   ⟨(some 9), (.extract (.tmp 5) 0), none⟩, 
   ⟨(some 10), (.extract (.tmp 5) 1), none⟩, 
   ⟨(some 3), (.mv (.tmp 9)), none⟩, 
   ⟨(some 4), (.mv (.tmp 10)), none⟩])
  (.seq (.ops [
    ⟨(some 11), (.mv (.tmp 3)), none⟩, 
    ⟨(some 2), (.mv (.tmp 11)), none⟩])
   .ret)))
theorem c11 {args : Array Value} {h : Heap} {R : Ending → Heap → Prop} (ha : args.size ≤ 12) (hh : aexec Tryd.prog ac11 (abody [(.slot 2)] R) ⟨initFr args.toList, []⟩ h) : HCalls Tryd.prog 11 args h R :=
  hcalls_of Tryd.func11 rfl rfl (by kernel_rfl) (by kernel_rfl) ha hh
/-- 12: credenza/credenzaref10.Text -/
def ac12 : ACode :=
 (.seq (.ops [
  ⟨(some 2), (.mv (.const (.string ⟨#[]⟩))), none⟩])
 (.seq (.seq (.ops [
    ⟨(some 3), (.mv (.tmp 0)), none⟩, 
    ⟨(some 4), (.bin .lss (.tmp 3) (.const (.int .i64 0))), none⟩])
   (.cond (.tmp 4)
    (.seq (.ops [
      ⟨(some 5), (.mv (.tmp 0)), none⟩, 
      ⟨(some 6), (.bin .add (.tmp 5) (.const (.int .i64 1))), none⟩, 
      ⟨(some 7), (.un .neg (.tmp 6)), none⟩, 
      ⟨(some 8), (.convInt .u64 (.tmp 7)), none⟩, 
      ⟨(some 9), (.bin .add (.tmp 8) (.const (.int .u64 1))), none⟩, 
      ⟨(some 10), (.callF 42 [(.tmp 9)]), none⟩, 
      ⟨(some 11), (.bin .add (.const (.string ⟨#[45]⟩)) (.tmp 10)), none⟩, 
      ⟨(some 12), (.callF 39 [(.tmp 11)]), none⟩, 
      ⟨(some 2), (.mv (.tmp 12)), none⟩])
     .ret)
    .skip))
  (.seq (.ops [
    ⟨(some 13), (.mv (.tmp 0)), none⟩, 
    ⟨(some 14), (.convInt .u64 (.tmp 13)), none⟩, 
    ⟨(some 15), (.callF 42 [(.tmp 14)]), none⟩, 
    ⟨(some 16), (.callF 39 [(.tmp 15)]), none⟩, 
    ⟨(some 2), (.mv (.tmp 16)), none⟩])
   .ret)))
theorem c12 {args : Array Value} {h : Heap} {R : Ending → Heap → Prop} (ha : args.size ≤ 17) (hh : aexec Tryd.prog ac12 (abody [(.slot 2)] R) ⟨initFr args.toList, []⟩ h) : HCalls Tryd.prog 12 args h R :=
  hcalls_of Tryd.func12 rfl rfl (by kernel_rfl) (by kernel_rfl) ha hh
/-- 13: credenza/credenzalaw10.same -/
def ac13 : ACode :=
 (.seq (.ops [
  ⟨(some 8), (.mv (.const (.bool false))), none⟩])
 (.seq (.ops [
   ⟨(some 9), (.mv (.tmp 0)), none⟩, 
   ⟨(some 10), (.mv (.tmp 2)), none⟩, 
   ⟨(some 11), (.bin .eql (.tmp 9) (.tmp 10)), none⟩, 
   ⟨(some 12), (.mv (.tmp 11)), none⟩, 
   ⟨(some 13), (.mv (.tmp 1)), (some (12, true))⟩, 
   ⟨(some 14), (.mv (.tmp 3)), (some (12, true))⟩, 
   ⟨(some 15), (.bin .eql (.tmp 13) (.tmp 14)), (some (12, true))⟩, 
   ⟨(some 16), (.pick (.tmp 12) (.tmp 15) (.const (.bool false))), none⟩, 
   ⟨(some 8), (.mv (.tmp 16)), none⟩])
  .ret))
theorem c13 {args : Array Value} {h : Heap} {R : Ending → Heap → Prop} (ha : args.size ≤ 17) (hh : aexec Tryd.prog ac13 (abody [(.slot 8)] R) ⟨initFr args.toList, []⟩ h) : HCalls Tryd.prog 13 args h R :=
  hcalls_of Tryd.func13 rfl rfl (by kernel_rfl) (by kernel_rfl) ha hh
/-- 14: credenza/number.Add -/
def ac14 : ACode :=
 (.seq (.ops [
  ⟨(some 4), (.mv (.const (.int .i64 0))), none⟩, 
  ⟨(some 5), (.mv (.const (.int .i64 0))), none⟩])
 (.seq (.ops [
   ⟨(some 6), (.mv (.tmp 0)), none⟩, 
   ⟨(some 7), (.mv (.tmp 1)), none⟩, 
   ⟨(some 8), (.bin .add (.tmp 6) (.tmp 7)), none⟩, 
   ⟨(some 9), (.mv (.tmp 0)), none⟩, 
   ⟨(some 10), (.callF 43 [(.tmp 9)]), none⟩, 
   ⟨(some 11), (.mv (.tmp 10)), none⟩, 
   ⟨(some 12), (.mv (.tmp 1)), (some (11, true))⟩, 
   ⟨(some 13), (.callF 43 [(.tmp 12)]), (some (11, true))⟩, 
   ⟨(some 14), (.pick (.tmp 11) (.tmp 13) (.const (.bool false))), none⟩, 
   ⟨(some 15), (.callF 33 [(.tmp 8), (.tmp 14)]), none⟩, 
   ⟨(some 16), (.extract (.tmp 15) 0), none⟩, 
   ⟨(some 17), (.extract (.tmp 15) 1), none⟩, 
   ⟨(some 4), (.mv (.tmp 16)), none⟩, 
   ⟨(some 5), (.mv (.tmp 17)), none⟩])
  .ret))
theorem c14 {args : Array Value} {h : Heap} {R : Ending → Heap → Prop} (ha : args.size ≤ 18) (hh : aexec Tryd.prog ac14 (abody [(.slot 4), (.slot 5)] R) ⟨initFr args.toList, []⟩ h) : HCalls Tryd.prog 14 args h R :=
  hcalls_of Tryd.func14 rfl rfl (by kernel_rfl) (by kernel_rfl) ha hh
/-- 15: credenza/number.Mul -/
def ac15 : ACode :=
 (.seq (.ops [
  ⟨(some 4), (.mv (.const (.int .i64 0))), none⟩, 
  ⟨(some 5), (.mv (.const (.int .i64 0))), none⟩])
 (.seq (.seq (.ops [
    ⟨(some 8), (.mv (.tmp 0)), none⟩, 
    ⟨(some 9), (.callF 43 [(.tmp 8)]), none⟩, 
    ⟨(some 10), (.un .not (.tmp 9)), none⟩, 
    ⟨(some 11), (.mv (.tmp 10)), none⟩, 
    ⟨(some 12), (.mv (.tmp 1)), (some (11, false))⟩, 
    ⟨(some 13), (.callF 43 [(.tmp 12)]), (some (11, false))⟩, 
    ⟨(some 14), (.un .not (.tmp 13)), (some (11, false))⟩, 
    ⟨(some 15), (.pick (.tmp 11) (.const (.bool true)) (.tmp 14)), none⟩])
   (.cond (.tmp 15)
    (.seq (.ops [
      ⟨(some 4), (.mv (.const (.int .i64 0))), none⟩, 
      ⟨(some 5), (.mv (.const (.int .i64 100))), none⟩])
     .ret)
    .skip))
  (.seq (.ops [
    ⟨(some 17), (.mv (.tmp 0)), none⟩, 
    ⟨(some 18), (.mv (.tmp 0)), none⟩, 
    ⟨(some 19), (.un .neg (.tmp 18)), none⟩, 
    ⟨(some 20), (.minmax true (.tmp 17) [(.tmp 19)]), none⟩, 
    ⟨(some 21), (.convInt .u64 (.tmp 20)), none⟩, 
    ⟨(some 22), (.mv (.tmp 1)), none⟩, 
    ⟨(some 23), (.mv (.tmp 1)), none⟩, 
    ⟨(some 24), (.un .neg (.tmp 23)), none⟩, 
    ⟨(some 25), (.minmax true (.tmp 22) [(.tmp 24)]), none⟩, 
    ⟨(some 26), (.convInt .u64 (.tmp 25)), none⟩, 
    ⟨(some 27), (.callF 44 [(.tmp 21), (.tmp 26)]), none⟩, 
    ⟨(some 16), (.mv (.tmp 27)), none⟩, 
    ⟨(some 28), (.extract (.tmp 16) 0), none⟩, 
    ⟨(some 29), (.extract (.tmp 16) 1), none⟩, 
    ⟨(some 6), (.mv (.tmp 28)), none⟩, 
    ⟨(some 7), (.mv (.tmp 29)), none⟩])
   (.seq (.ops [
     ⟨(some 30), (.mv (.tmp 0)), none⟩, 
     ⟨(some 31), (.mv (.tmp 1)), none⟩, 
     ⟨(some 32), (.bin .mul (.tmp 30) (.tmp 31)), none⟩, 
     ⟨(some 33), (.mv (.tmp 6)), none⟩, 
     ⟨(some 34), (.bin .eql (.tmp 33) (.const (.int .u64 0))), none⟩, 
     ⟨(some 35), (.mv (.tmp 34)), none⟩, 
     ⟨(some 36), (.mv (.tmp 7)), (some (35, true))⟩, 
     ⟨(some 37), (.bin .leq (.tmp 36) (.const (.int .u64 9007199254740991))), (some (35, true))⟩, 
     ⟨(some 38), (.pick (.tmp 35) (.tmp 37) (.const (.bool false))), none⟩, 
     ⟨(some 39), (.callF 33 [(.tmp 32), (.tmp 38)]), none⟩, 
     ⟨(some 40), (.extract (.tmp 39) 0), none⟩, 
     ⟨(some 41), (.extract (.tmp 39) 1), none⟩, 
     ⟨(some 4), (.mv (.tmp 40)), none⟩, 
     ⟨(some 5), (.mv (.tmp 41)), none⟩])
    .ret))))
theorem c15 {args : Array Value} {h : Heap} {R : Ending → Heap → Prop} (ha : args.size ≤ 42) (hh : aexec Tryd.prog ac15 (abody [(.slot 4), (.slot 5)] R) ⟨initFr args.toList, []⟩ h) : HCalls Tryd.prog 15 args h R :=
  hcalls_of Tryd.func15 rfl rfl (by kernel_rfl) (by kernel_rfl) ha hh
/-- 16: credenza/number.Check -/
def ac16 : ACode :=
 (.seq (.ops [
  ⟨(some 2), (.mv (.const (.int .i64 0))), none⟩])
 (.seq (.ops [
   ⟨(some 6), (.mv (.tmp 0)), none⟩, 
   ⟨(some 7), (.callF 33 [(.tmp 6), (.const (.bool true))]), none⟩, 
   ⟨(some 5), (.mv (.tmp 7)), none⟩, 
   ⟨(some 8), (.extract (.tmp 5) 0), none⟩, 
   ⟨(some 9), (.extract (.tmp 5) 1), none⟩, 
   ⟨(some 3), (.mv (.tmp 8)), none⟩, 
   ⟨(some 4), (.mv (.tmp 9)), none⟩])
  (.seq (.ops [
    ⟨(some 10), (.mv (.tmp 4)), none⟩, 
    ⟨(some 2), (.mv (.tmp 10)), none⟩])
   .ret)))
theorem c16 {args : Array Value} {h : Heap} {R : Ending → Heap → Prop} (ha : args.size ≤ 11) (hh : aexec Tryd.prog ac16 (abody [(.slot 2)] R) ⟨initFr args.toList, []⟩ h) : HCalls Tryd.prog 16 args h R :=
  hcalls_of Tryd.func16 rfl rfl (by kernel_rfl) (by kernel_rfl) ha hh
/-- 17: credenza/credenzaref10.Add -/
def ac17 : ACode :=
 (.seq (.ops [
  ⟨(some 4), (.mv (.const (.int .i64 0))), none⟩, 
  ⟨(some 5), (.mv (.const (.int .i64 0))), none⟩])
 (.seq (.seq (.ops [
    ⟨(some 6), (.mv (.tmp 0)), none⟩, 
    ⟨(some 7), (.callF 45 [(.tmp 6)]), none⟩, 
    ⟨(some 8), (.un .not (.tmp 7)), none⟩, 
    ⟨(some 9), (.mv (.tmp 8)), none⟩, 
    ⟨(some 10), (.mv (.tmp 1)), (some (9, false))⟩, 
    ⟨(some 11), (.callF 45 [(.tmp 10)]), (some (9, false))⟩, 
    ⟨(some 12), (.un .not (.tmp 11)), (some (9, false))⟩, 
    ⟨(some 13), (.pick (.tmp 9) (.const (.bool true)) (.tmp 12)), none⟩])
   (.cond (.tmp 13)
    (.seq (.ops [
      ⟨(some 4), (.mv (.const (.int .i64 0))), none⟩, 
      ⟨(some 5), (.mv (.const (.int .i64 100))), none⟩])
     .ret)
    .skip))
  (.seq (.ops [
    ⟨(some 14), (.mv (.tmp 0)), none⟩, 
    ⟨(some 15), (.mv (.tmp 1)), none⟩, 
    ⟨(some 16), (.bin .add (.tmp 14) (.tmp 15)), none⟩, 
    ⟨(some 17), (.callF 38 [(.tmp 16), (.const (.slice none 0 0))]), none⟩, 
    ⟨(some 18), (.extract (.tmp 17) 0), none⟩, 
    ⟨(some 19), (.extract (.tmp 17) 1), none⟩, 
    ⟨(some 4), (.mv (.tmp 18)), none⟩, 
    ⟨(some 5), (.mv (.tmp 19)), none⟩])
   .ret)))
theorem c17 {args : Array Value} {h : Heap} {R : Ending → Heap → Prop} (ha : args.size ≤ 20) (hh : aexec Tryd.prog ac17 (abody [(.slot 4), (.slot 5)] R) ⟨initFr args.toList, []⟩ h) : HCalls Tryd.prog 17 args h R :=
  hcalls_of Tryd.func17 rfl rfl (by kernel_rfl) (by kernel_rfl) ha hh
/-- 18: credenza/credenzaref10.Check -/
def ac18 : ACode :=
 (.seq (.ops [
  ⟨(some 2), (.mv (.const (.int .i64 0))), none⟩])
 (.seq (.seq (.ops [
    ⟨(some 3), (.mv (.tmp 0)), none⟩, 
    ⟨(some 4), (.callF 45 [(.tmp 3)]), none⟩, 
    ⟨(some 5), (.un .not (.tmp 4)), none⟩])
   (.cond (.tmp 5)
    (.seq (.ops [
      ⟨(some 2), (.mv (.const (.int .i64 100))), none⟩])
     .ret)
    .skip))
  (.seq (.ops [
    ⟨(some 2), (.mv (.const (.int .i64 0))), none⟩])
   .ret)))
theorem c18 {args : Array Value} {h : Heap} {R : Ending → Heap → Prop} (ha : args.size ≤ 6) (hh : aexec Tryd.prog ac18 (abody [(.slot 2)] R) ⟨initFr args.toList, []⟩ h) : HCalls Tryd.prog 18 args h R :=
  hcalls_of Tryd.func18 rfl rfl (by kernel_rfl) (by kernel_rfl) ha hh
/-- 19: credenza/number.Sub -/
def ac19 : ACode :=
 (.seq (.ops [
  ⟨(some 4), (.mv (.const (.int .i64 0))), none⟩, 
  ⟨(some 5), (.mv (.const (.int .i64 0))), none⟩])
 (.seq (.ops [
   ⟨(some 6), (.mv (.tmp 0)), none⟩, 
   ⟨(some 7), (.mv (.tmp 1)), none⟩, 
   ⟨(some 8), (.bin .sub (.tmp 6) (.tmp 7)), none⟩, 
   ⟨(some 9), (.mv (.tmp 0)), none⟩, 
   ⟨(some 10), (.callF 43 [(.tmp 9)]), none⟩, 
   ⟨(some 11), (.mv (.tmp 10)), none⟩, 
   ⟨(some 12), (.mv (.tmp 1)), (some (11, true))⟩, 
   ⟨(some 13), (.callF 43 [(.tmp 12)]), (some (11, true))⟩, 
   ⟨(some 14), (.pick (.tmp 11) (.tmp 13) (.const (.bool false))), none⟩, 
   ⟨(some 15), (.callF 33 [(.tmp 8), (.tmp 14)]), none⟩, 
   ⟨(some 16), (.extract (.tmp 15) 0), none⟩, 
   ⟨(some 17), (.extract (.tmp 15) 1), none⟩, 
   ⟨(some 4), (.mv (.tmp 16)), none⟩, 
   ⟨(some 5), (.mv (.tmp 17)), none⟩])
  .ret))
theorem c19 {args : Array Value} {h : Heap} {R : Ending → Heap → Prop} (ha : args.size ≤ 18) (hh : aexec Tryd.prog ac19 (abody [(.slot 4), (.slot 5)] R) ⟨initFr args.toList, []⟩ h) : HCalls Tryd.prog 19 args h R :=
  hcalls_of Tryd.func19 rfl rfl (by kernel_rfl) (by kernel_rfl) ha hh
/-- 20: credenza/credenzaref10.Sub -/
def ac20 : ACode :=
 (.seq (.ops [
  ⟨(some 4), (.mv (.const (.int .i64 0))), none⟩, 
  ⟨(some 5), (.mv (.const (.int .i64 0))), none⟩])
 (.seq (.seq (.ops [
    ⟨(some 6), (.mv (.tmp 0)), none⟩, 
    ⟨(some 7), (.callF 45 [(.tmp 6)]), none⟩, 
    ⟨(some 8), (.un .not (.tmp 7)), none⟩, 
    ⟨(some 9), (.mv (.tmp 8)), none⟩, 
    ⟨(some 10), (.mv (.tmp 1)), (some (9, false))⟩, 
    ⟨(some 11), (.callF 45 [(.tmp 10)]), (some (9, false))⟩, 
    ⟨(some 12), (.un .not (.tmp 11)), (some (9, false))⟩, 
    ⟨(some 13), (.pick (.tmp 9) (.const (.bool true)) (.tmp 12)), none⟩])
   (.cond (.tmp 13)
    (.seq (.ops [
      ⟨(some 4), (.mv (.const (.int .i64 0))), none⟩, 
      ⟨(some 5), (.mv (.const (.int .i64 100))), none⟩])
     .ret)
    .skip))
  (.seq (.ops [
    ⟨(some 14), (.mv (.tmp 0)), none⟩, 
    ⟨(some 15), (.mv (.tmp 1)), none⟩, 
    ⟨(some 16), (.bin .sub (.tmp 14) (.tmp 15)), none⟩, 
    ⟨(some 17), (.callF 38 [(.tmp 16), (.const (.slice none 0 0))]), none⟩, 
    ⟨(some 18), (.extract (.tmp 17) 0), none⟩, 
    ⟨(some 19), (.extract (.tmp 17) 1), none⟩, 
    ⟨(some 4), (.mv (.tmp 18)), none⟩, 
    ⟨(some 5), (.mv (.tmp 19)), none⟩])
   .ret)))
theorem c20 {args : Array Value} {h : Heap} {R : Ending → Heap → Prop} (ha : args.size ≤ 20) (hh : aexec Tryd.prog ac20 (abody [(.slot 4), (.slot 5)] R) ⟨initFr args.toList, []⟩ h) : HCalls Tryd.prog 20 args h R :=
  hcalls_of Tryd.func20 rfl rfl (by kernel_rfl) (by kernel_rfl) ha hh
/-- 21: credenza/credenzaref10.Mul -/
def ac21 : ACode :=
 (.seq (.ops [
  ⟨(some 4), (.mv (.const (.int .i64 0))), none⟩, 
  ⟨(some 5), (.mv (.const (.int .i64 0))), none⟩])
 (.seq (.seq (.ops [
    ⟨(some 6), (.mv (.tmp 0)), none⟩, 
    ⟨(some 7), (.callF 45 [(.tmp 6)]), none⟩, 
    ⟨(some 8), (.un .not (.tmp 7)), none⟩, 
    ⟨(some 9), (.mv (.tmp 8)), none⟩, 
    ⟨(some 10), (.mv (.tmp 1)), (some (9, false))⟩, 
    ⟨(some 11), (.callF 45 [(.tmp 10)]), (some (9, false))⟩, 
    ⟨(some 12), (.un .not (.tmp 11)), (some (9, false))⟩, 
    ⟨(some 13), (.pick (.tmp 9) (.const (.bool true)) (.tmp 12)), none⟩])
   (.cond (.tmp 13)
    (.seq (.ops [
      ⟨(some 4), (.mv (.const (.int .i64 0))), none⟩, 
      ⟨(some 5), (.mv (.const (.int .i64 100))), none⟩])
     .ret)
    .skip))
  (.seq (.seq (.ops [
     ⟨(some 14), (.mv (.tmp 0)), none⟩, 
     ⟨(some 15), (.bin .neq (.tmp 14) (.const (.int .i64 0))), none⟩, 
     ⟨(some 16), (.mv (.tmp 15)), none⟩, 
     ⟨(some 17), (.mv (.tmp 1)), (some (16, true))⟩, 
     ⟨(some 18), (.callF 46 [(.tmp 17)]), (some (16, true))⟩, 
     ⟨(some 19), (.mv (.tmp 0)), (some (16, true))⟩, 
     ⟨(some 20), (.callF 46 [(.tmp 19)]), (some (16, true))⟩, 
     ⟨(some 21), (.bin .quo (.const (.int .i64 9007199254740991)) (.tmp 20)), (some (16, true))⟩, 
     ⟨(some 22), (.bin .gtr (.tmp 18) (.tmp 21)), (some (16, true))⟩, 
     ⟨(some 23), (.pick (.tmp 16) (.tmp 22) (.const (.bool false))), none⟩])
    (.cond (.tmp 23)
     (.seq (.ops [
       ⟨(some 4), (.mv (.const (.int .i64 0))), none⟩, 
       ⟨(some 5), (.mv (.const (.int .i64 100))), none⟩])
      .ret)
     .skip))
   (.seq (.ops [
     ⟨(some 24), (.mv (.tmp 0)), none⟩, 
     ⟨(some 25), (.mv (.tmp 1)), none⟩, 
     ⟨(some 26), (.bin .mul (.tmp 24) (.tmp 25)), none⟩, 
     ⟨(some 4), (.mv (.tmp 26)), none⟩, 
     ⟨(some 5), (.mv (.const (.int .i64 0))), none⟩])
    .ret))))
theorem c21 {args : Array Value} {h : Heap} {R : Ending → Heap → Prop} (ha : args.size ≤ 27) (hh : aexec Tryd.prog ac21 (abody [(.slot 4), (.slot 5)] R) ⟨initFr args.toList, []⟩ h) : HCalls Tryd.prog 21 args h R :=
  hcalls_of Tryd.func21 rfl rfl (by kernel_rfl) (by kernel_rfl) ha hh
/-- 22: credenza/number.Div -/
def ac22 : ACode :=
 (.seq (.ops [
  ⟨(some 4), (.mv (.const (.int .i64 0))), none⟩, 
  ⟨(some 5), (.mv (.const (.int .i64 0))), none⟩])
 (.seq (.seq (.ops [
    ⟨(some 6), (.mv (.tmp 0)), none⟩, 
    ⟨(some 7), (.callF 43 [(.tmp 6)]), none⟩, 
    ⟨(some 8), (.un .not (.tmp 7)), none⟩, 
    ⟨(some 9), (.mv (.tmp 8)), none⟩, 
    ⟨(some 10), (.mv (.tmp 1)), (some (9, false))⟩, 
    ⟨(some 11), (.callF 43 [(.tmp 10)]), (some (9, false))⟩, 
    ⟨(some 12), (.un .not (.tmp 11)), (some (9, false))⟩, 
    ⟨(some 13), (.pick (.tmp 9) (.const (.bool true)) (.tmp 12)), none⟩, 
    ⟨(some 14), (.mv (.tmp 13)), none⟩, 
    ⟨(some 15), (.mv (.tmp 1)), (some (14, false))⟩, 
    ⟨(some 16), (.bin .eql (.tmp 15) (.const (.int .i64 0))), (some (14, false))⟩, 
    ⟨(some 17), (.pick (.tmp 14) (.const (.bool true)) (.tmp 16)), none⟩, 
    ⟨(some 18), (.mv (.tmp 17)), none⟩, 
    ⟨(some 19), (.mv (.tmp 0)), (some (18, false))⟩, 
    ⟨(some 20), (.mv (.tmp 1)), (some (18, false))⟩, 
    ⟨(some 21), (.bin .rem (.tmp 19) (.tmp 20)), (some (18, false))⟩, 
    ⟨(some 22), (.bin .neq (.tmp 21) (.const (.int .i64 0))), (some (18, false))⟩, 
    ⟨(some 23), (.pick (.tmp 18) (.const (.bool true)) (.tmp 22)), none⟩])
   (.cond (.tmp 23)
    (.seq (.ops [
      ⟨(some 4), (.mv (.const (.int .i64 0))), none⟩, 
      ⟨(some 5), (.mv (.const (.int .i64 100))), none⟩])
     .ret)
    .skip))
  (.seq (.ops [
    ⟨(some 24), (.mv (.tmp 0)), none⟩, 
    ⟨(some 25), (.mv (.tmp 1)), none⟩, 
    ⟨(some 26), (.bin .quo (.tmp 24) (.tmp 25)), none⟩, 
    ⟨(some 4), (.mv (.tmp 26)), none⟩, 
    ⟨(some 5), (.mv (.const (.int .i64 0))), none⟩])
   .ret)))
theorem c22 {args : Array Value} {h : Heap} {R : Ending → Heap → Prop} (ha : args.size ≤ 27) (hh : aexec Tryd.prog ac22 (abody [(.slot 4), (.slot 5)] R) ⟨initFr args.toList, []⟩ h) : HCalls Tryd.prog 22 args h R :=
  hcalls_of Tryd.func22 rfl rfl (by kernel_rfl) (by kernel_rfl) ha hh
/-- 23: credenza/credenzaref10.Div -/
def ac23 : ACode :=
 (.seq (.ops [
  ⟨(some 4), (.mv (.const (.int .i64 0))), none⟩, 
  ⟨(some 5), (.mv (.const (.int .i64 0))), none⟩])
 (.seq (.ops [
   ⟨(some 9), (.mv (.tmp 0)), none⟩, 
   ⟨(some 10), (.mv (.tmp 1)), none⟩, 
   ⟨(some 11), (.callF 25 [(.tmp 9), (.tmp 10)]), none⟩, 
   ⟨(some 8), (.mv (.tmp 11)), none⟩, 
   ⟨(some 12), (.extract (.tmp 8) 0), none⟩, 
   ⟨(some 13), (.extract (.tmp 8) 1), none⟩, 
   ⟨(some 6), (.mv (.tmp 12)), none⟩, 
   ⟨(some 7), (.mv (.tmp 13)), none⟩])
  (.seq (.seq (.ops [
     ⟨(some 14), (.mv (.tmp 7)), none⟩, 
     ⟨(some 15), (.bin .neq (.tmp 14) (.const (.int .i64 0))), none⟩, 
     ⟨(some 16), (.mv (.tmp 15)), none⟩, 
     ⟨(some 17), (.mv (.tmp 6)), (some (16, false))⟩, 
     ⟨(some 18), (.bin .neq (.tmp 17) (.const (.int .i64 0))), (some (16, false))⟩, 
     ⟨(some 19), (.pick (.tmp 16) (.const (.bool true)) (.tmp 18)), none⟩])
    (.cond (.tmp 19)
     (.seq (.ops [
       ⟨(some 4), (.mv (.const (.int .i64 0))), none⟩, 
       ⟨(some 5), (.mv (.const (.int .i64 100))), none⟩])
      .ret)
     .skip))
   (.seq (.ops [
     ⟨(some 20), (.mv (.tmp 0)), none⟩, 
     ⟨(some 21), (.mv (.tmp 1)), none⟩, 
     ⟨(some 22), (.bin .quo (.tmp 20) (.tmp 21)), none⟩, 
     ⟨(some 4), (.mv (.tmp 22)), none⟩, 
     ⟨(some 5), (.mv (.const (.int .i64 0))), none⟩])
    .ret))))
theorem c23 {args : Array Value} {h : Heap} {R : Ending → Heap → Prop} (ha : args.size ≤ 23) (hh : aexec Tryd.prog ac23 (abody [(.slot 4), (.slot 5)] R) ⟨initFr args.toList, []⟩ h) : HCalls Tryd.prog 23 args h R :=
  hcalls_of Tryd.func23 rfl rfl (by kernel_rfl) (by kernel_rfl) ha hh
/-- 24: credenza/number.Mod -/
def ac24 : ACode :=
 (.seq (.ops [
  ⟨(some 4), (.mv (.const (.int .i64 0))), none⟩, 
  ⟨(some 5), (.mv (.const (.int .i64 0))), none⟩])
 (.seq (.seq (.ops [
    ⟨(some 6), (.mv (.tmp 0)), none⟩, 
    ⟨(some 7), (.callF 43 [(.tmp 6)]), none⟩, 
    ⟨(some 8), (.un .not (.tmp 7)), none⟩, 
    ⟨(some 9), (.mv (.tmp 8)), none⟩, 
    ⟨(some 10), (.mv (.tmp 1)), (some (9, false))⟩, 
    ⟨(some 11), (.callF 43 [(.tmp 10)]), (some (9, false))⟩, 
    ⟨(some 12), (.un .not (.tmp 11)), (some (9, false))⟩, 
    ⟨(some 13), (.pick (.tmp 9) (.const (.bool true)) (.tmp 12)), none⟩, 
    ⟨(some 14), (.mv (.tmp 13)), none⟩, 
    ⟨(some 15), (.mv (.tmp 1)), (some (14, false))⟩, 
    ⟨(some 16), (.bin .eql (.tmp 15) (.const (.int .i64 0))), (some (14, false))⟩, 
    ⟨(some 17), (.pick (.tmp 14) (.const (.bool true)) (.tmp 16)), none⟩])
   (.cond (.tmp 17)
    (.seq (.ops [
      ⟨(some 4), (.mv (.const (.int .i64 0))), none⟩, 
      ⟨(some 5), (.mv (.const (.int .i64 100))), none⟩])
     .ret)
    .skip))
  (.seq (.ops [
    ⟨(some 18), (.mv (.tmp 0)), none⟩, 
    ⟨(some 19), (.mv (.tmp 1)), none⟩, 
    ⟨(some 20), (.bin .rem (.tmp 18) (.tmp 19)), none⟩, 
    ⟨(some 4), (.mv (.tmp 20)), none⟩, 
    ⟨(some 5), (.mv (.const (.int .i64 0))), none⟩])
   .ret)))
theorem c24 {args : Array Value} {h : Heap} {R : Ending → Heap → Prop} (ha : args.size ≤ 21) (hh : aexec Tryd.prog ac24 (abody [(.slot 4), (.slot 5)] R) ⟨initFr args.toList, []⟩ h) : HCalls Tryd.prog 24 args h R :=
  hcalls_of Tryd.func24 rfl rfl (by kernel_rfl) (by kernel_rfl) ha hh
/-- 25: credenza/credenzaref10.Mod -/
def ac25 : ACode :=
 (.seq (.ops [
  ⟨(some 4), (.mv (.const (.int .i64 0))), none⟩, 
  ⟨(some 5), (.mv (.const (.int .i64 0))), none⟩])
 (.seq (.seq (.ops [
    ⟨(some 6), (.mv (.tmp 0)), none⟩, 
    ⟨(some 7), (.callF 45 [(.tmp 6)]), none⟩, 
    ⟨(some 8), (.un .not (.tmp 7)), none⟩, 
    ⟨(some 9), (.mv (.tmp 8)), none⟩, 
    ⟨(some 10), (.mv (.tmp 1)), (some (9, false))⟩, 
    ⟨(some 11), (.callF 45 [(.tmp 10)]), (some (9, false))⟩, 
    ⟨(some 12), (.un .not (.tmp 11)), (some (9, false))⟩, 
    ⟨(some 13), (.pick (.tmp 9) (.const (.bool true)) (.tmp 12)), none⟩, 
    ⟨(some 14), (.mv (.tmp 13)), none⟩, 
    ⟨(some 15), (.mv (.tmp 1)), (some (14, false))⟩, 
    ⟨(some 16), (.bin .eql (.tmp 15) (.const (.int .i64 0))), (some (14, false))⟩, 
    ⟨(some 17), (.pick (.tmp 14) (.const (.bool true)) (.tmp 16)), none⟩])
   (.cond (.tmp 17)
    (.seq (.ops [
      ⟨(some 4), (.mv (.const (.int .i64 0))), none⟩, 
      ⟨(some 5), (.mv (.const (.int .i64 100))), none⟩])
     .ret)
    .skip))
  (.seq (.ops [
    ⟨(some 18), (.mv (.tmp 0)), none⟩, 
    ⟨(some 19), (.mv (.tmp 1)), none⟩, 
    ⟨(some 20), (.bin .rem (.tmp 18) (.tmp 19)), none⟩, 
    ⟨(some 4), (.mv (.tmp 20)), none⟩, 
    ⟨(some 5), (.mv (.const (.int .i64 0))), none⟩])
   .ret)))
theorem c25 {args : Array Value} {h : Heap} {R : Ending → Heap → Prop} (ha : args.size ≤ 21) (hh : aexec Tryd.prog ac25 (abody [(.slot 4), (.slot 5)] R) ⟨initFr args.toList, []⟩ h) : HCalls Tryd.prog 25 args h R :=
  hcalls_of Tryd.func25 rfl rfl (by kernel_rfl) (by kernel_rfl) ha hh
/-- 26: credenza/units.Check -/
def ac26 : ACode :=
 (.seq (.ops [
  ⟨(some 2), (.mv (.const (.bool false))), none⟩])
 (.seq (.ops [
   ⟨(some 3), (.mv (.tmp 0)), none⟩, 
   ⟨(some 4), (.lenStr (.tmp 3)), none⟩, 
   ⟨(some 5), (.bin .and (.tmp 4) (.const (.int .i64 1))), none⟩, 
   ⟨(some 6), (.bin .eql (.tmp 5) (.const (.int .i64 0))), none⟩, 
   ⟨(some 2), (.mv (.tmp 6)), none⟩])
  .ret))
theorem c26 {args : Array Value} {h : Heap} {R : Ending → Heap → Prop} (ha : args.size ≤ 7) (hh : aexec Tryd.prog ac26 (abody [(.slot 2)] R) ⟨initFr args.toList, []⟩ h) : HCalls Tryd.prog 26 args h R :=
  hcalls_of Tryd.func26 rfl rfl (by kernel_rfl) (by kernel_rfl) ha hh
/-- 27: credenza/units.Len -/
def ac27 : ACode :=
 (.seq (.ops [
  ⟨(some 2), (.mv (.const (.int .i64 0))), none⟩])
 (.seq (.ops [
   ⟨(some 3), (.mv (.tmp 0)), none⟩, 
   ⟨(some 4), (.lenStr (.tmp 3)), none⟩, 
   ⟨(some 5), (.bin .quo (.tmp 4) (.const (.int .i64 2))), none⟩, 
   ⟨(some 2), (.mv (.tmp 5)), none⟩])
  .ret))
theorem c27 {args : Array Value} {h : Heap} {R : Ending → Heap → Prop} (ha : args.size ≤ 6) (hh : aexec Tryd.prog ac27 (abody [(.slot 2)] R) ⟨initFr args.toList, []⟩ h) : HCalls Tryd.prog 27 args h R :=
  hcalls_of Tryd.func27 rfl rfl (by kernel_rfl) (by kernel_rfl) ha hh
/-- 28: credenza/units.At -/
def ac28 : ACode :=
 (.seq (.ops [
  ⟨(some 4), (.mv (.const (.int .i64 0))), none⟩])
 (.seq (.seq (.ops [
    ⟨(some 5), (.mv (.tmp 1)), none⟩, 
    ⟨(some 6), (.bin .lss (.tmp 5) (.const (.int .i64 0))), none⟩, 
    ⟨(some 7), (.mv (.tmp 6)), none⟩, 
    ⟨(some 8), (.mv (.tmp 1)), (some (7, false))⟩, 
    ⟨(some 9), (.mv (.tmp 0)), (some (7, false))⟩, 
    ⟨(some 10), (.callF 27 [(.tmp 9)]), (some (7, false))⟩, 
    ⟨(some 11), (.bin .geq (.tmp 8) (.tmp 10)), (some (7, false))⟩, 
    ⟨(some 12), (.pick (.tmp 7) (.const (.bool true)) (.tmp 11)), none⟩])
   (.cond (.tmp 12)
    (.seq (.ops [
      ⟨(some 4), (.mv (.const (.int .i64 (-1)))), none⟩])
     .ret)
    .skip))
  (.seq (.any [13, 14, 15, 16, 17, 18, 19, 20, 21, 22, 23, 24, 25, 4] [
    ⟨(some 13), (.mv (.tmp 0)), none⟩, 
    ⟨(some 14), (.mv (.tmp 1)), none⟩, 
    ⟨(some 15), (.bin .mul (.const (.int .i64 2)) (.tmp 14)), none⟩, 
    ⟨(some 16), (.idxStr (.tmp 13) (.tmp 15)), none⟩, 
    ⟨(some 17), (.convInt .i64 (.tmp 16)), none⟩, 
    ⟨(some 18), (.bin .shl (.tmp 17) (.const (.int .u64 8))), none⟩, 
    ⟨(some 19), (.mv (.tmp 0)), none⟩, 
    ⟨(some 20), (.mv (.tmp 1)), none⟩, 
    ⟨(some 21), (.bin .mul (.const (.int .i64 2)) (.tmp 20)), none⟩, 
    ⟨(some 22), (.bin .add (.tmp 21) (.const (.int .i64 1))), none⟩, 
    ⟨(some 23), (.idxStr (.tmp 19) (.tmp 22)), none⟩, 
    ⟨(some 24), (.convInt .i64 (.tmp 23)), none⟩, 
    ⟨(some 25), (.bin .or (.tmp 18) (.tmp 24)), none⟩, 
    ⟨(some 4), (.mv (.tmp 25)), none⟩])
   .ret)))
theorem c28 {args : Array Value} {h : Heap} {R : Ending → Heap → Prop} (ha : args.size ≤ 26) (hh : aexec Tryd.prog ac28 (abody [(.slot 4)] R) ⟨initFr args.toList, []⟩ h) : HCalls Tryd.prog 28 args h R :=
  hcalls_of Tryd.func28 rfl rfl (by kernel_rfl) (by kernel_rfl) ha hh
/-- 29: credenza/number.Read$1 -/
def ac29 : ACode :=
 (.seq (.ops [
  ⟨(some 2), (.mv (.const (.bool false))), none⟩])
 (.seq (.ops [
   ⟨(some 3), (.mv (.tmp 0)), none⟩, 
   ⟨(some 4), (.callF 30 [(.tmp 3)]), none⟩, 
   ⟨(some 5), (.un .not (.tmp 4)), none⟩, 
   ⟨(some 2), (.mv (.tmp 5)), none⟩])
  .ret))
theorem c29 {args : Array Value} {h : Heap} {R : Ending → Heap → Prop} (ha : args.size ≤ 6) (hh : aexec Tryd.prog ac29 (abody [(.slot 2)] R) ⟨initFr args.toList, []⟩ h) : HCalls Tryd.prog 29 args h R :=
  hcalls_of Tryd.func29 rfl rfl (by kernel_rfl) (by kernel_rfl) ha hh
/-- 30: credenza/number.blank -/
def ac30 : ACode :=
 (.seq (.ops [
  ⟨(some 2), (.mv (.const (.bool false))), none⟩])
 (.seq (.seq (.ops [
    ⟨(some 3), (.mv (.tmp 0)), none⟩])
   (.block 0
    (.seq (.seq (.ops [
       ⟨(some 5), (.bin .eql (.tmp 3) (.const (.int .i64 32))), none⟩, 
       ⟨(some 4), (.mv (.tmp 5)), none⟩])
      (.cond (.tmp 4)
       .skip
       (.seq (.ops [
         ⟨(some 6), (.bin .eql (.tmp 3) (.const (.int .i64 160))), none⟩, 
         ⟨(some 4), (.mv (.tmp 6)), none⟩])
        (.cond (.tmp 4)
         .skip
         (.seq (.ops [
           ⟨(some 7), (.bin .eql (.tmp 3) (.const (.int .i64 8232))), none⟩, 
           ⟨(some 4), (.mv (.tmp 7)), none⟩])
          (.cond (.tmp 4)
           .skip
           (.seq (.ops [
             ⟨(some 8), (.bin .eql (.tmp 3) (.const (.int .i64 8233))), none⟩, 
             ⟨(some 4), (.mv (.tmp 8)), none⟩])
            (.cond (.tmp 4)
             .skip
             (.ops [
              ⟨(some 9), (.bin .eql (.tmp 3) (.const (.int .i64 65279))), none⟩, 
              ⟨(some 4), (.mv (.tmp 9)), none⟩])))))))))
     (.cond (.tmp 4)
      (.seq (.ops [
        ⟨(some 2), (.mv (.const (.bool true))), none⟩])
       .ret)
      .skip))))
  (.seq (.ops [
    ⟨(some 10), (.mv (.tmp 0)), none⟩, 
    ⟨(some 11), (.bin .geq (.tmp 10) (.const (.int .i64 9))), none⟩, 
    ⟨(some 12), (.mv (.tmp 11)), none⟩, 
    ⟨(some 13), (.mv (.tmp 0)), (some (12, true))⟩, 
    ⟨(some 14), (.bin .leq (.tmp 13) (.const (.int .i64 13))), (some (12, true))⟩, 
    ⟨(some 15), (.pick (.tmp 12) (.tmp 14) (.const (.bool false))), none⟩, 
    ⟨(some 2), (.mv (.tmp 15)), none⟩])
   .ret)))
theorem c30 {args : Array Value} {h : Heap} {R : Ending → Heap → Prop} (ha : args.size ≤ 16) (hh : aexec Tryd.prog ac30 (abody [(.slot 2)] R) ⟨initFr args.toList, []⟩ h) : HCalls Tryd.prog 30 args h R :=
  hcalls_of Tryd.func30 rfl rfl (by kernel_rfl) (by kernel_rfl) ha hh
/-- 31: slices.IndexFunc[[]int,int] -/
def ac31 : ACode :=
 (.seq (.ops [
  ⟨(some 4), (.mv (.const (.int .i64 0))), none⟩])
 (.seq (.seq (.ops [
    ⟨(some 6), (.mv (.tmp 0)), none⟩, 
    ⟨(some 7), (.lenSl (.tmp 6)), none⟩, 
    ⟨(some 8), (.mv (.const (.int .i64 0))), none⟩])
   (.block 0
    (.loop
     (.seq (.ops [
       ⟨(some 9), (.bin .lss (.tmp 8) (.tmp 7)), none⟩])
      (.seq (.cond (.tmp 9)
        .skip
        (.exit 0))
       (.seq (.block 1
         (.seq (.ops [
           ⟨(some 10), (.mv (.tmp 8)), none⟩, 
           ⟨(some 5), (.mv (.tmp 10)), none⟩])
          (.seq (.ops [
            ⟨(some 11), (.mv (.tmp 1)), none⟩, 
            ⟨(some 12), (.mv (.tmp 0)), none⟩, 
            ⟨(some 13), (.mv (.tmp 5)), none⟩, 
            ⟨(some 14), (.idxSl 1 (.tmp 12) (.tmp 13)), none⟩, 
            ⟨(some 15), (.load1 (.tmp 14)), none⟩, 
            ⟨(some 16), (.callV (.tmp 11) [(.tmp 15)]), none⟩])
           (.cond (.tmp 16)
            (.seq (.ops [
              ⟨(some 17), (.mv (.tmp 5)), none⟩, 
              ⟨(some 4), (.mv (.tmp 17)), none⟩])
             .ret)
            .skip))))
        (.ops [
         ⟨(some 18), (.bin .add (.tmp 8) (.const (.int .i64 1))), none⟩, 
         ⟨(some 8), (.mv (.tmp 18)), none⟩])))))))
  (.seq (.ops [
    ⟨(some 4), (.mv (.const (.int .i64 (-1)))), none⟩])
   .ret)))
theorem c31 {args : Array Value} {h : Heap} {R : Ending → Heap → Prop} (ha : args.size ≤ 19) (hh : aexec Tryd.prog ac31 (abody [(.slot 4)] R) ⟨initFr args.toList, []⟩ h) : HCalls Tryd.prog 31 args h R :=
  hcalls_of Tryd.func31 rfl rfl (by kernel_rfl) (by kernel_rfl) ha hh
/-- 32: strconv.ParseInt -/
def ac32 : ACode :=
 (.seq (.ops [
  ⟨(some 6), (.mv (.const (.int .i64 0))), none⟩, 
  ⟨(some 7), (.mv (.const .nilIface)), none⟩])
 (.seq (.ops [
   ⟨(some 10), (.mv (.tmp 0)), none⟩, 
   ⟨(some 11), (.mv (.tmp 1)), none⟩, 
   ⟨(some 12), (.mv (.tmp 2)), none⟩, 
   ⟨(some 13), (.callF 47 [(.tmp 10), (.tmp 11), (.tmp 12)]), none⟩, 
   ⟨(some 9), (.mv (.tmp 13)), none⟩, 
   ⟨(some 14), (.extract (.tmp 9) 0), none⟩, 
   ⟨(some 15), (.extract (.tmp 9) 1), none⟩, 
   ⟨(some 8), (.mv (.tmp 14)), none⟩, 
   ⟨(some 7), (.mv (.tmp 15)), none⟩])
  (.seq (.seq (.ops [
     ⟨(some 16), (.mv (.tmp 7)), none⟩, 
     ⟨(some 17), (.isNil 0 true (.tmp 16)), none⟩])
    (.cond (.tmp 17)
     (.seq (.ops [
       ⟨(some 18), (.mv (.tmp 8)), none⟩, 
       ⟨(some 19), (.mv (.tmp 0)), none⟩, 
       ⟨(some 20), (.mv (.tmp 1)), none⟩, 
       ⟨(some 21), (.mv (.tmp 2)), none⟩, 
       ⟨(some 22), (.mv (.tmp 7)), none⟩, 
       ⟨(some 23), (.callF 48 [(.const (.string ⟨#[80, 97, 114, 115, 101, 73, 110, 116]⟩)), (.tmp 19), (.tmp 20), (.tmp 21), (.tmp 22)]), none⟩, 
       ⟨(some 6), (.mv (.tmp 18)), none⟩, 
       ⟨(some 7), (.mv (.tmp 23)), none⟩])
      .ret)
     .skip))
   (.seq (.ops [
     ⟨(some 24), (.mv (.tmp 8)), none⟩, 
     ⟨(some 6), (.mv (.tmp 24)), none⟩, 
     ⟨(some 7), (.mv (.const .nilIface)), none⟩])
    .ret))))
theorem c32 {args : Array Value} {h : Heap} {R : Ending → Heap → Prop} (ha : args.size ≤ 25) (hh : aexec Tryd.prog ac32 (abody [(.slot 6), (.slot 7)] R) ⟨initFr args.toList, []⟩ h) : HCalls Tryd.prog 32 args h R :=
  hcalls_of Tryd.func32 rfl rfl (by kernel_rfl) (by kernel_rfl) ha hh
/-- 33: credenza/number.told -/
def ac33 : ACode :=
 (.seq (.ops [
  ⟨(some 4), (.mv (.const (.int .i64 0))), none⟩, 
  ⟨(some 5), (.mv (.const (.int .i64 0))), none⟩])
 (.seq (.seq (.ops [
    ⟨(some 6), (.mv (.tmp 1)), none⟩, 
    ⟨(some 7), (.un .not (.tmp 6)), none⟩, 
    ⟨(some 8), (.mv (.tmp 7)), none⟩, 
    ⟨(some 9), (.mv (.tmp 0)), (some (8, false))⟩, 
    ⟨(some 10), (.callF 43 [(.tmp 9)]), (some (8, false))⟩, 
    ⟨(some 11), (.un .not (.tmp 10)), (some (8, false))⟩, 
    ⟨(some 12), (.pick (.tmp 8) (.const (.bool true)) (.tmp 11)), none⟩])
   (.cond (.tmp 12)
    (.seq (.ops [
      ⟨(some 4), (.mv (.const (.int .i64 0))), none⟩, 
      ⟨(some 5), (.mv (.const (.int .i64 100))), none⟩])
     .ret)
    .skip))
  (.seq (.ops [
    ⟨(some 13), (.mv (.tmp 0)), none⟩, 
    ⟨(some 4), (.mv (.tmp 13)), none⟩, 
    ⟨(some 5), (.mv (.const (.int .i64 0))), none⟩])
   .ret)))
theorem c33 {args : Array Value} {h : Heap} {R : Ending → Heap → Prop} (ha : args.size ≤ 14) (hh : aexec Tryd.prog ac33 (abody [(.slot 4), (.slot 5)] R) ⟨initFr args.toList, []⟩ h) : HCalls Tryd.prog 33 args h R :=
  hcalls_of Tryd.func33 rfl rfl (by kernel_rfl) (by kernel_rfl) ha hh
/-- 34: credenza/credenzaref01.Check -/
def ac34 : ACode :=
 (.seq (.ops [
  ⟨(some 2), (.mv (.const (.bool false))), none⟩])
 (.seq (.ops [
   ⟨(some 3), (.mv (.tmp 0)), none⟩, 
   ⟨(some 4), (.lenStr (.tmp 3)), none⟩, 
   ⟨(some 5), (.bin .rem (.tmp 4) (.const (.int .i64 2))), none⟩, 
   ⟨(some 6), (.bin .eql (.tmp 5) (.const (.int .i64 0))), none⟩, 
   ⟨(some 2), (.mv (.tmp 6)), none⟩])
  .ret))
theorem c34 {args : Array Value} {h : Heap} {R : Ending → Heap → Prop} (ha : args.size ≤ 7) (hh : aexec Tryd.prog ac34 (abody [(.slot 2)] R) ⟨initFr args.toList, []⟩ h) : HCalls Tryd.prog 34 args h R :=
  hcalls_of Tryd.func34 rfl rfl (by kernel_rfl) (by kernel_rfl) ha hh
/-- 35: credenza/credenzaref01.List -/
def ac35 : ACode :=
 (.seq (.ops [
  ⟨(some 2), (.mv (.const (.slice none 0 0))), none⟩])
 (.seq (.ops [
   ⟨(some 3), (.mv (.const (.slice none 0 0))), none⟩])
  (.seq (.seq (.ops [
     ⟨(some 4), (.mv (.const (.int .i64 0))), none⟩])
    (.block 0
     (.loop
      (.seq (.seq (.ops [
         ⟨(some 5), (.mv (.tmp 4)), none⟩, 
         ⟨(some 6), (.bin .add (.tmp 5) (.const (.int .i64 1))), none⟩, 
         ⟨(some 7), (.mv (.tmp 0)), none⟩, 
         ⟨(some 8), (.lenStr (.tmp 7)), none⟩, 
         ⟨(some 9), (.bin .lss (.tmp 6) (.tmp 8)), none⟩])
        (.cond (.tmp 9)
         .skip
         (.exit 0)))
       (.seq (.block 1
         (.any [12, 13, 14, 15, 16, 17, 18, 19, 20, 21, 22, 23, 24, 25, 3] [
          ⟨(some 12), (.mv (.tmp 3)), none⟩, 
          ⟨(some 13), (.mv (.tmp 0)), none⟩, 
          ⟨(some 14), (.mv (.tmp 4)), none⟩, 
          ⟨(some 15), (.idxStr (.tmp 13) (.tmp 14)), none⟩, 
          ⟨(some 16), (.convInt .i64 (.tmp 15)), none⟩, 
          ⟨(some 17), (.bin .mul (.tmp 16) (.const (.int .i64 256))), none⟩, 
          ⟨(some 18), (.mv (.tmp 0)), none⟩, 
          ⟨(some 19), (.mv (.tmp 4)), none⟩, 
          ⟨(some 20), (.bin .add (.tmp 19) (.const (.int .i64 1))), none⟩, 
          ⟨(some 21), (.idxStr (.tmp 18) (.tmp 20)), none⟩, 
          ⟨(some 22), (.convInt .i64 (.tmp 21)), none⟩, 
          ⟨(some 23), (.bin .add (.tmp 17) (.tmp 22)), none⟩, 
          ⟨(some 24), (.buildSlice 3 1 [(.int .i64 0)] [(0, 1, (.tmp 23))]), none⟩, 
          ⟨(some 25), (.append 3 1 8 [(.int .i64 0)] (.tmp 12) (.tmp 24)), none⟩, 
          ⟨(some 3), (.mv (.tmp 25)), none⟩]))
        (.ops [
         ⟨(some 10), (.mv (.tmp 4)), none⟩, 
         ⟨(some 11), (.bin .add (.tmp 10) (.const (.int .i64 2))), none⟩, 
         ⟨(some 4), (.mv (.tmp 11)), none⟩]))))))
   (.seq (.ops [
     ⟨(some 26), (.mv (.tmp 3)), none⟩, 
     ⟨(some 2), (.mv (.tmp 26)), none⟩])
    .ret))))
theorem c35 {args : Array Value} {h : Heap} {R : Ending → Heap → Prop} (ha : args.size ≤ 27) (hh : aexec Tryd.prog ac35 (abody [(.slot 2)] R) ⟨initFr args.toList, []⟩ h) : HCalls Tryd.prog 35 args h R :=
  hcalls_of Tryd.func35 rfl rfl (by kernel_rfl) (by kernel_rfl) ha hh
/-- 36: credenza/credenzaref10.blank -/
def ac36 : ACode :=
 (.seq (.ops [
  ⟨(some 2), (.mv (.const (.bool false))), none⟩])
 (.seq (.ops [
   ⟨(some 3), (.mv (.tmp 0)), none⟩, 
   ⟨(some 4), (.bin .geq (.tmp 3) (.const (.int .i64 9))), none⟩, 
   ⟨(some 5), (.mv (.tmp 4)), none⟩, 
   ⟨(some 6), (.mv (.tmp 0)), (some (5, true))⟩, 
   ⟨(some 7), (.bin .leq (.tmp 6) (.const (.int .i64 13))), (some (5, true))⟩, 
   ⟨(some 8), (.pick (.tmp 5) (.tmp 7) (.const (.bool false))), none⟩, 
   ⟨(some 9), (.mv (.tmp 8)), none⟩, 
   ⟨(some 10), (.mv (.tmp 0)), (some (9, false))⟩, 
   ⟨(some 11), (.bin .eql (.tmp 10) (.const (.int .i64 32))), (some (9, false))⟩, 
   ⟨(some 12), (.pick (.tmp 9) (.const (.bool true)) (.tmp 11)), none⟩, 
   ⟨(some 13), (.mv (.tmp 12)), none⟩, 
   ⟨(some 14), (.mv (.tmp 0)), (some (13, false))⟩, 
   ⟨(some 15), (.bin .eql (.tmp 14) (.const (.int .i64 160))), (some (13, false))⟩, 
   ⟨(some 16), (.pick (.tmp 13) (.const (.bool true)) (.tmp 15)), none⟩, 
   ⟨(some 17), (.mv (.tmp 16)), none⟩, 
   ⟨(some 18), (.mv (.tmp 0)), (some (17, false))⟩, 
   ⟨(some 19), (.bin .eql (.tmp 18) (.const (.int .i64 8232))), (some (17, false))⟩, 
   ⟨(some 20), (.pick (.tmp 17) (.const (.bool true)) (.tmp 19)), none⟩, 
   ⟨(some 21), (.mv (.tmp 20)), none⟩, 
   ⟨(some 22), (.mv (.tmp 0)), (some (21, false))⟩, 
   ⟨(some 23), (.bin .eql (.tmp 22) (.const (.int .i64 8233))), (some (21, false))⟩, 
   ⟨(some 24), (.pick (.tmp 21) (.const (.bool true)) (.tmp 23)), none⟩, 
   ⟨(some 25), (.mv (.tmp 24)), none⟩, 
   ⟨(some 26), (.mv (.tmp 0)), (some (25, false))⟩, 
   ⟨(some 27), (.bin .eql (.tmp 26) (.const (.int .i64 65279))), (some (25, false))⟩, 
   ⟨(some 28), (.pick (.tmp 25) (.const (.bool true)) (.tmp 27)), none⟩, 
   ⟨(some 2), (.mv (.tmp 28)), none⟩])
  .ret))
theorem c36 {args : Array Value} {h : Heap} {R : Ending → Heap → Prop} (ha : args.size ≤ 29) (hh : aexec Tryd.prog ac36 (abody [(.slot 2)] R) ⟨initFr args.toList, []⟩ h) : HCalls Tryd.prog 36 args h R :=
  hcalls_of Tryd.func36 rfl rfl (by kernel_rfl) (by kernel_rfl) ha hh
/-- 37: credenza/credenzaref10.value -/
def ac37 : ACode :=
 (.seq (.ops [
  ⟨(some 2), (.mv (.const (.int .i64 0))), none⟩])
 (.seq (.block 0
   (.seq (.ops [
     ⟨(some 4), (.mv (.tmp 0)), none⟩, 
     ⟨(some 5), (.bin .geq (.tmp 4) (.const (.int .i64 48))), none⟩, 
     ⟨(some 6), (.mv (.tmp 5)), none⟩, 
     ⟨(some 7), (.mv (.tmp 0)), (some (6, true))⟩, 
     ⟨(some 8), (.bin .leq (.tmp 7) (.const (.int .i64 57))), (some (6, true))⟩, 
     ⟨(some 9), (.pick (.tmp 6) (.tmp 8) (.const (.bool false))), none⟩, 
     ⟨(some 3), (.mv (.tmp 9)), none⟩])
    (.cond (.tmp 3)
     (.seq (.ops [
       ⟨(some 10), (.mv (.tmp 0)), none⟩, 
       ⟨(some 11), (.bin .sub (.tmp 10) (.const (.int .i64 48))), none⟩, 
       ⟨(some 2), (.mv (.tmp 11)), none⟩])
      .ret)
     (.seq (.ops [
       ⟨(some 13), (.mv (.tmp 0)), none⟩, 
       ⟨(some 14), (.bin .geq (.tmp 13) (.const (.int .i64 97))), none⟩, 
       ⟨(some 15), (.mv (.tmp 14)), none⟩, 
       ⟨(some 16), (.mv (.tmp 0)), (some (15, true))⟩, 
       ⟨(some 17), (.bin .leq (.tmp 16) (.const (.int .i64 102))), (some (15, true))⟩, 
       ⟨(some 18), (.pick (.tmp 15) (.tmp 17) (.const (.bool false))), none⟩, 
       ⟨(some 12), (.mv (.tmp 18)), none⟩])
      (.cond (.tmp 12)
       (.seq (.ops [
         ⟨(some 19), (.mv (.tmp 0)), none⟩, 
         ⟨(some 20), (.bin .sub (.tmp 19) (.const (.int .i64 97))), none⟩, 
         ⟨(some 21), (.bin .add (.tmp 20) (.const (.int .i64 10))), none⟩, 
         ⟨(some 2), (.mv (.tmp 21)), none⟩])
        .ret)
       (.seq (.ops [
         ⟨(some 23), (.mv (.tmp 0)), none⟩, 
         ⟨(some 24), (.bin .geq (.tmp 23) (.const (.int .i64 65))), none⟩, 
         ⟨(some 25), (.mv (.tmp 24)), none⟩, 
         ⟨(some 26), (.mv (.tmp 0)), (some (25, true))⟩, 
         ⟨(some 27), (.bin .leq (.tmp 26) (.const (.int .i64 70))), (some (25, true))⟩, 
         ⟨(some 28), (.pick (.tmp 25) (.tmp 27) (.const (.bool false))), none⟩, 
         ⟨(some 22), (.mv (.tmp 28)), none⟩])
        (.cond (.tmp 22)
         (.seq (.ops [
           ⟨(some 29), (.mv (.tmp 0)), none⟩, 
           ⟨(some 30), (.bin .sub (.tmp 29) (.const (.int .i64 65))), none⟩, 
           ⟨(some 31), (.bin .add (.tmp 30) (.const (.int .i64 10))), none⟩, 
           ⟨(some 2), (.mv (.tmp 31)), none⟩])
          .ret)
         .skip)))))))
  (.seq (.ops [
    ⟨(some 2), (.mv (.const (.int .i64 99))), none⟩])
   .ret)))
theorem c37 {args : Array Value} {h : Heap} {R : Ending → Heap → Prop} (ha : args.size ≤ 32) (hh : aexec Tryd.prog ac37 (abody [(.slot 2)] R) ⟨initFr args.toList, []⟩ h) : HCalls Tryd.prog 37 args h R :=
  hcalls_of Tryd.func37 rfl rfl (by kernel_rfl) (by kernel_rfl) ha hh
/-- 38: credenza/credenzaref10.told -/
def ac38 : ACode :=
 (.seq (.ops [
  ⟨(some 4), (.mv (.const (.int .i64 0))), none⟩, 
  ⟨(some 5), (.mv (.const (.int .i64 0))), none⟩])
 (.seq (.seq (.ops [
    ⟨(some 8), (.mv (.tmp 1)), none⟩, 
    ⟨(some 9), (.mv (.tmp 0)), none⟩, 
    ⟨(some 10), (.buildSlice 2 1 [(.int .i64 0)] [(0, 1, (.tmp 9))]), none⟩, 
    ⟨(some 11), (.append 2 1 8 [(.int .i64 0)] (.tmp 8) (.tmp 10)), none⟩, 
    ⟨(some 12), (.lenSl (.tmp 11)), none⟩, 
    ⟨(some 13), (.mv (.const (.int .i64 0))), none⟩])
   (.block 0
    (.loop
     (.seq (.ops [
       ⟨(some 14), (.bin .lss (.tmp 13) (.tmp 12)), none⟩])
      (.seq (.cond (.tmp 14)
        .skip
        (.exit 0))
       (.seq (.block 1
         (.seq (.ops [
           ⟨(some 15), (.idxSl 1 (.tmp 11) (.tmp 13)), none⟩, 
           ⟨(some 16), (.load1 (.tmp 15)), none⟩, 
           ⟨(some 7), (.mv (.tmp 16)), none⟩])
          (.seq (.ops [
            ⟨(some 17), (.mv (.tmp 7)), none⟩, 
            ⟨(some 18), (.callF 45 [(.tmp 17)]), none⟩, 
            ⟨(some 19), (.un .not (.tmp 18)), none⟩])
           (.cond (.tmp 19)
            (.seq (.ops [
              ⟨(some 4), (.mv (.const (.int .i64 0))), none⟩, 
              ⟨(some 5), (.mv (.const (.int .i64 100))), none⟩])
             .ret)
            .skip))))
        (.ops [
         ⟨(some 20), (.bin .add (.tmp 13) (.const (.int .i64 1))), none⟩, 
         ⟨(some 13), (.mv (.tmp 20)), none⟩])))))))
  (.seq (.ops [
    ⟨(some 21), (.mv (.tmp 0)), none⟩, 
    ⟨(some 4), (.mv (.tmp 21)), none⟩, 
    ⟨(some 5), (.mv (.const (.int .i64 0))), none⟩])
   .ret)))
theorem c38 {args : Array Value} {h : Heap} {R : Ending → Heap → Prop} (ha : args.size ≤ 22) (hh : aexec Tryd.prog ac38 (abody [(.slot 4), (.slot 5)] R) ⟨initFr args.toList, []⟩ h) : HCalls Tryd.prog 38 args h R :=
  hcalls_of Tryd.func38 rfl rfl (by kernel_rfl) (by kernel_rfl) ha hh
/-- 39: credenza/credenzaref01.U -/
def ac39 : ACode :=
 (.seq (.ops [
  ⟨(some 2), (.mv (.const (.string ⟨#[]⟩))), none⟩])
 (.seq (.ops [
   ⟨(some 6), (.mv (.tmp 0)), none⟩, 
   ⟨(some 7), (.callF 49 [(.tmp 6)]), none⟩, 
   ⟨(some 5), (.mv (.tmp 7)), none⟩, 
   ⟨(some 8), (.extract (.tmp 5) 0), none⟩, 
   ⟨(some 9), (.extract (.tmp 5) 1), none⟩, 
   ⟨(some 3), (.mv (.tmp 8)), none⟩, 
   ⟨(some 4), (.mv (.tmp 9)), none⟩])
  (.seq (.ops [
    ⟨(some 10), (.mv (.tmp 3)), none⟩, 
    ⟨(some 2), (.mv (.tmp 10)), none⟩])
   .ret)))
theorem c39 {args : Array Value} {h : Heap} {R : Ending → Heap → Prop} (ha : args.size ≤ 11) (hh : aexec Tryd.prog ac39 (abody [(.slot 2)] R) ⟨initFr args.toList, []⟩ h) : HCalls Tryd.prog 39 args h R :=
  hcalls_of Tryd.func39 rfl rfl (by kernel_rfl) (by kernel_rfl) ha hh
/-- 40: credenza/units.Of -/
def ac40 : ACode :=
 (.seq (.ops [
  ⟨(some 2), (.mv (.const (.string ⟨#[]⟩))), none⟩, 
  ⟨(some 3), (.mv (.const (.int .i64 0))), none⟩])
 (.seq (.ops [
   ⟨(some 6), (.mv (.tmp 0)), none⟩, 
   ⟨(some 7), (.lenStr (.tmp 6)), none⟩, 
   ⟨(some 8), (.bin .mul (.const (.int .i64 2)) (.tmp 7)), none⟩, 
   ⟨(some 9), (.mkSlice 5 1 1 [(.int .u8 0)] (.tmp 8) (.tmp 8)), none⟩, 
   ⟨(some 4), (.mv (.tmp 9)), none⟩])
  (.seq (.seq (.ops [
     ⟨(some 10), (.mv (.tmp 0)), none⟩, 
     ⟨(some 11), (.lenStr (.tmp 10)), none⟩, 
     ⟨(some 12), (.mv (.const (.int .i64 0))), none⟩])
    (.block 0
     (.loop
      (.seq (.ops [
        ⟨(some 13), (.bin .lss (.tmp 12) (.tmp 11)), none⟩])
       (.seq (.cond (.tmp 13)
         .skip
         (.exit 0))
        (.seq (.block 1
          (.seq (.ops [
            ⟨(some 14), (.mv (.tmp 12)), none⟩, 
            ⟨(some 5), (.mv (.tmp 14)), none⟩])
           (.seq (.seq (.ops [
              ⟨(some 15), (.mv (.tmp 0)), none⟩, 
              ⟨(some 16), (.mv (.tmp 5)), none⟩, 
              ⟨(some 17), (.idxStr (.tmp 15) (.tmp 16)), none⟩, 
              ⟨(some 18), (.bin .geq (.tmp 17) (.const (.int .u8 128))), none⟩])
             (.cond (.tmp 18)
              (.seq (.ops [
                ⟨(some 2), (.mv (.const (.string ⟨#[]⟩))), none⟩, 
                ⟨(some 3), (.mv (.const (.int .i64 10))), none⟩])
               .ret)
              .skip))
            (.ops [
             ⟨(some 19), (.mv (.tmp 4)), none⟩, 
             ⟨(some 20), (.mv (.tmp 5)), none⟩, 
             ⟨(some 21), (.bin .mul (.const (.int .i64 2)) (.tmp 20)), none⟩, 
             ⟨(some 22), (.bin .add (.tmp 21) (.const (.int .i64 1))), none⟩, 
             ⟨(some 23), (.mv (.tmp 0)), none⟩, 
             ⟨(some 24), (.mv (.tmp 5)), none⟩, 
             ⟨(some 25), (.idxStr (.tmp 23) (.tmp 24)), none⟩, 
             ⟨(some 26), (.idxSl 1 (.tmp 19) (.tmp 22)), none⟩, 
             ⟨none, (.store1 (.tmp 26) (.tmp 25)), none⟩]))))
         (.ops [
          ⟨(some 27), (.bin .add (.tmp 12) (.const (.int .i64 1))), none⟩, 
          ⟨(some 12), (.mv (.tmp 27)), none⟩])))))))
   (.seq (.ops [
     ⟨(some 28), (.mv (.tmp 4)), none⟩, 
     ⟨(some 29), (.strOfBytes (.tmp 28)), none⟩, 
     ⟨(some 2), (.mv (.tmp 29)), none⟩, 
     ⟨(some 3), (.mv (.const (.int .i64 0))), none⟩])
    .ret))))
theorem c40 {args : Array Value} {h : Heap} {R : Ending → Heap → Prop} (ha : args.size ≤ 30) (hh : aexec Tryd.prog ac40 (abody [(.slot 2), (.slot 3)] R) ⟨initFr args.toList, []⟩ h) : HCalls Tryd.prog 40 args h R :=
  hcalls_of Tryd.func40 rfl rfl (by kernel_rfl) (by kernel_rfl) ha hh
/-- 41: strconv.FormatInt -/
def ac41 : ACode :=
 (.seq (.ops [
  ⟨(some 4), (.mv (.const (.string ⟨#[]⟩))), none⟩])
 (.seq (.ops [
   ⟨(some 5), (.mv (.tmp 0)), none⟩, 
   ⟨(some 6), (.mv (.tmp 1)), none⟩, 
   ⟨(some 7), (.callF 50 [(.tmp 5), (.tmp 6)]), none⟩, 
   ⟨(some 4), (.mv (.tmp 7)), none⟩])
  .ret))
theorem c41 {args : Array Value} {h : Heap} {R : Ending → Heap → Prop} (ha : args.size ≤ 8) (hh : aexec Tryd.prog ac41 (abody [(.slot 4)] R) ⟨initFr args.toList, []⟩ h) : HCalls Tryd.prog 41 args h R :=
  hcalls_of Tryd.func41 rfl rfl (by kernel_rfl) (by kernel_rfl) ha hh
/-- 42: credenza/credenzaref10.digits -/
def ac42 : ACode :=
 (.seq (.ops [
  ⟨(some 2), (.mv (.const (.string ⟨#[]⟩))), none⟩])
 (.seq (.ops [
   ⟨(some 4), (.mv (.tmp 0)), none⟩, 
   ⟨(some 5), (.bin .rem (.tmp 4) (.const (.int .u64 10))), none⟩, 
   ⟨(some 6), (.bin .add (.const (.int .u64 48)) (.tmp 5)), none⟩, 
   ⟨(some 7), (.convInt .u8 (.tmp 6)), none⟩, 
   ⟨(some 8), (.buildSlice 5 1 [(.int .u8 0)] [(0, 1, (.tmp 7))]), none⟩, 
   ⟨(some 9), (.strOfBytes (.tmp 8)), none⟩, 
   ⟨(some 3), (.mv (.tmp 9)), none⟩])
  (.seq (.seq (.ops [
     ⟨(some 10), (.mv (.tmp 0)), none⟩, 
     ⟨(some 11), (.bin .lss (.tmp 10) (.const (.int .u64 10))), none⟩])
    (.cond (.tmp 11)
     (.seq (.ops [
       ⟨(some 12), (.mv (.tmp 3)), none⟩, 
       ⟨(some 2), (.mv (.tmp 12)), none⟩])
      .ret)
     .skip))
   (.seq (.ops [
     ⟨(some 13), (.mv (.tmp 0)), none⟩, 
     ⟨(some 14), (.bin .quo (.tmp 13) (.const (.int .u64 10))), none⟩, 
     ⟨(some 15), (.callF 42 [(.tmp 14)]), none⟩, 
     ⟨(some 16), (.mv (.tmp 3)), none⟩, 
     ⟨(some 17), (.bin .add (.tmp 15) (.tmp 16)), none⟩, 
     ⟨(some 2), (.mv (.tmp 17)), none⟩])
    .ret))))
theorem c42 {args : Array Value} {h : Heap} {R : Ending → Heap → Prop} (ha : args.size ≤ 18) (hh : aexec Tryd.prog ac42 (abody [(.slot 2)] R) ⟨initFr args.toList, []⟩ h) : HCalls Tryd.prog 42 args h R :=
  hcalls_of Tryd.func42 rfl rfl (by kernel_rfl) (by kernel_rfl) ha hh
/-- 43: credenza/number.safe -/
def ac43 : ACode :=
 (.seq (.ops [
  ⟨(some 2), (.mv (.const (.bool false))), none⟩])
 (.seq (.ops [
   ⟨(some 3), (.mv (.tmp 0)), none⟩, 
   ⟨(some 4), (.bin .geq (.tmp 3) (.const (.int .i64 (-9007199254740991)))), none⟩, 
   ⟨(some 5), (.mv (.tmp 4)), none⟩, 
   ⟨(some 6), (.mv (.tmp 0)), (some (5, true))⟩, 
   ⟨(some 7), (.bin .leq (.tmp 6) (.const (.int .i64 9007199254740991))), (some (5, true))⟩, 
   ⟨(some 8), (.pick (.tmp 5) (.tmp 7) (.const (.bool false))), none⟩, 
   ⟨(some 2), (.mv (.tmp 8)), none⟩])
  .ret))
theorem c43 {args : Array Value} {h : Heap} {R : Ending → Heap → Prop} (ha : args.size ≤ 9) (hh : aexec Tryd.prog ac43 (abody [(.slot 2)] R) ⟨initFr args.toList, []⟩ h) : HCalls Tryd.prog 43 args h R :=
  hcalls_of Tryd.func43 rfl rfl (by kernel_rfl) (by kernel_rfl) ha hh
/-- 44: math/bits.Mul64 -/
def ac44 : ACode :=
 (.seq (.ops [
  ⟨(some 4), (.mv (.const (.int .u64 0))), none⟩, 
  ⟨(some 5), (.mv (.const (.int .u64 0))), none⟩])
 (.seq (.ops [
   ⟨(some 14), (.mv (.tmp 0)), none⟩, 
   ⟨(some 15), (.bin .and (.tmp 14) (.const (.int .u64 4294967295))), none⟩, 
   ⟨(some 6), (.mv (.tmp 15)), none⟩])
  (.seq (.ops [
    ⟨(some 16), (.mv (.tmp 0)), none⟩, 
    ⟨(some 17), (.bin .shr (.tmp 16) (.const (.int .u64 32))), none⟩, 
    ⟨(some 7), (.mv (.tmp 17)), none⟩])
   (.seq (.ops [
     ⟨(some 18), (.mv (.tmp 1)), none⟩, 
     ⟨(some 19), (.bin .and (.tmp 18) (.const (.int .u64 4294967295))), none⟩, 
     ⟨(some 8), (.mv (.tmp 19)), none⟩])
    (.seq (.ops [
      ⟨(some 20), (.mv (.tmp 1)), none⟩, 
      ⟨(some 21), (.bin .shr (.tmp 20) (.const (.int .u64 32))), none⟩, 
      ⟨(some 9), (.mv (.tmp 21)), none⟩])
     (.seq (.ops [
       ⟨(some 22), (.mv (.tmp 6)), none⟩, 
       ⟨(some 23), (.mv (.tmp 8)), none⟩, 
       ⟨(some 24), (.bin .mul (.tmp 22) (.tmp 23)), none⟩, 
       ⟨(some 10), (.mv (.tmp 24)), none⟩])
      (.seq (.ops [
        ⟨(some 25), (.mv (.tmp 7)), none⟩, 
        ⟨(some 26), (.mv (.tmp 8)), none⟩, 
        ⟨(some 27), (.bin .mul (.tmp 25) (.tmp 26)), none⟩, 
        ⟨(some 28), (.mv (.tmp 10)), none⟩, 
        ⟨(some 29), (.bin .shr (.tmp 28) (.const (.int .u64 32))), none⟩, 
        ⟨(some 30), (.bin .add (.tmp 27) (.tmp 29)), none⟩, 
        ⟨(some 11), (.mv (.tmp 30)), none⟩])
       (.seq (.ops [
         ⟨(some 31), (.mv (.tmp 11)), none⟩, 
         ⟨(some 32), (.bin .and (.tmp 31) (.const (.int .u64 4294967295))), none⟩, 
         ⟨(some 12), (.mv (.tmp 32)), none⟩])
        (.seq (.ops [
          ⟨(some 33), (.mv (.tmp 11)), none⟩, 
          ⟨(some 34), (.bin .shr (.tmp 33) (.const (.int .u64 32))), none⟩, 
          ⟨(some 13), (.mv (.tmp 34)), none⟩])
         (.seq (.ops [
           ⟨(some 35), (.mv (.tmp 12)), none⟩, 
           ⟨(some 36), (.mv (.tmp 6)), none⟩, 
           ⟨(some 37), (.mv (.tmp 9)), none⟩, 
           ⟨(some 38), (.bin .mul (.tmp 36) (.tmp 37)), none⟩, 
           ⟨(some 39), (.bin .add (.tmp 35) (.tmp 38)), none⟩, 
           ⟨(some 12), (.mv (.tmp 39)), none⟩])
          (.seq (.ops [
            ⟨(some 40), (.mv (.tmp 7)), none⟩, 
            ⟨(some 41), (.mv (.tmp 9)), none⟩, 
            ⟨(some 42), (.bin .mul (.tmp 40) (.tmp 41)), none⟩, 
            ⟨(some 43), (.mv (.tmp 13)), none⟩, 
            ⟨(some 44), (.bin .add (.tmp 42) (.tmp 43)), none⟩, 
            ⟨(some 45), (.mv (.tmp 12)), none⟩, 
            ⟨(some 46), (.bin .shr (.tmp 45) (.const (.int .u64 32))), none⟩, 
            ⟨(some 47), (.bin .add (.tmp 44) (.tmp 46)), none⟩, 
            ⟨(some 4), (.mv (.tmp 47)), none⟩])
           (.seq (.ops [
             ⟨(some 48), (.mv (.tmp 0)), none⟩, 
             ⟨(some 49), (.mv (.tmp 1)), none⟩, 
             ⟨(some 50), (.bin .mul (.tmp 48) (.tmp 49)), none⟩, 
             ⟨(some 5), (.mv (.tmp 50)), none⟩])
            .ret))))))))))))
theorem c44 {args : Array Value} {h : Heap} {R : Ending → Heap → Prop} (ha : args.size ≤ 51) (hh : aexec Tryd.prog ac44 (abody [(.slot 4), (.slot 5)] R) ⟨initFr args.toList, []⟩ h) : HCalls Tryd.prog 44 args h R :=
  hcalls_of Tryd.func44 rfl rfl (by kernel_rfl) (by kernel_rfl) ha hh
/-- 45: credenza/credenzaref10.safe -/
def ac45 : ACode :=
 (.seq (.ops [
  ⟨(some 2), (.mv (.const (.bool false))), none⟩])
 (.seq (.ops [
   ⟨(some 3), (.mv (.tmp 0)), none⟩, 
   ⟨(some 4), (.bin .geq (.tmp 3) (.const (.int .i64 (-9007199254740991)))), none⟩, 
   ⟨(some 5), (.mv (.tmp 4)), none⟩, 
   ⟨(some 6), (.mv (.tmp 0)), (some (5, true))⟩, 
   ⟨(some 7), (.bin .leq (.tmp 6) (.const (.int .i64 9007199254740991))), (some (5, true))⟩, 
   ⟨(some 8), (.pick (.tmp 5) (.tmp 7) (.const (.bool false))), none⟩, 
   ⟨(some 2), (.mv (.tmp 8)), none⟩])
  .ret))
theorem c45 {args : Array Value} {h : Heap} {R : Ending → Heap → Prop} (ha : args.size ≤ 9) (hh : aexec Tryd.prog ac45 (abody [(.slot 2)] R) ⟨initFr args.toList, []⟩ h) : HCalls Tryd.prog 45 args h R :=
  hcalls_of Tryd.func45 rfl rfl (by kernel_rfl) (by kernel_rfl) ha hh
/-- 46: credenza/credenzaref10.size -/
def ac46 : ACode :=
 (.seq (.ops [
  ⟨(some 2), (.mv (.const (.int .i64 0))), none⟩])
 (.seq (.seq (.ops [
    ⟨(some 3), (.mv (.tmp 0)), none⟩, 
    ⟨(some 4), (.bin .lss (.tmp 3) (.const (.int .i64 0))), none⟩])
   (.cond (.tmp 4)
    (.seq (.ops [
      ⟨(some 5), (.mv (.tmp 0)), none⟩, 
      ⟨(some 6), (.un .neg (.tmp 5)), none⟩, 
      ⟨(some 2), (.mv (.tmp 6)), none⟩])
     .ret)
    .skip))
  (.seq (.ops [
    ⟨(some 7), (.mv (.tmp 0)), none⟩, 
    ⟨(some 2), (.mv (.tmp 7)), none⟩])
   .ret)))
theorem c46 {args : Array Value} {h : Heap} {R : Ending → Heap → Prop} (ha : args.size ≤ 8) (hh : aexec Tryd.prog ac46 (abody [(.slot 2)] R) ⟨initFr args.toList, []⟩ h) : HCalls Tryd.prog 46 args h R :=
  hcalls_of Tryd.func46 rfl rfl (by kernel_rfl) (by kernel_rfl) ha hh
/-- 47: internal/strconv.ParseInt -/
def ac47 : ACode :=
 (.seq (.ops [
  ⟨(some 6), (.mv (.const (.int .i64 0))), none⟩, 
  ⟨(some 7), (.mv (.const .nilIface)), none⟩])
 (.seq (.seq (.ops [
    ⟨(some 12), (.mv (.tmp 0)), none⟩, 
    ⟨(some 13), (.bin .eql (.tmp 12) (.const (.string ⟨#[]⟩))), none⟩])
   (.cond (.tmp 13)
    (.seq (.ops [
      ⟨(some 14), (.mkIface 63 (.const (.int .i64 2))), none⟩, 
      ⟨(some 6), (.mv (.const (.int .i64 0))), none⟩, 
      ⟨(some 7), (.mv (.tmp 14)), none⟩])
     .ret)
    .skip))
  (.seq (.ops [
    ⟨(some 8), (.mv (.const (.bool false))), none⟩])
   (.seq (.seq (.ops [
      ⟨(some 15), (.mv (.tmp 0)), none⟩, 
      ⟨(some 16), (.idxStr (.tmp 15) (.const (.int .i64 0))), none⟩])
     (.block 0
      (.seq (.ops [
        ⟨(some 18), (.bin .eql (.tmp 16) (.const (.int .u8 43))), none⟩, 
        ⟨(some 17), (.mv (.tmp 18)), none⟩])
       (.cond (.tmp 17)
        (.ops [
         ⟨(some 19), (.mv (.tmp 0)), none⟩, 
         ⟨(some 20), (.sliceStr (.tmp 19) (some (.const (.int .i64 1))) none), none⟩, 
         ⟨(some 0), (.mv (.tmp 20)), none⟩])
        (.seq (.ops [
          ⟨(some 22), (.bin .eql (.tmp 16) (.const (.int .u8 45))), none⟩, 
          ⟨(some 21), (.mv (.tmp 22)), none⟩])
         (.cond (.tmp 21)
          (.seq (.ops [
            ⟨(some 23), (.mv (.tmp 0)), none⟩, 
            ⟨(some 24), (.sliceStr (.tmp 23) (some (.const (.int .i64 1))) none), none⟩, 
            ⟨(some 0), (.mv (.tmp 24)), none⟩])
           (.ops [
            ⟨(some 8), (.mv (.const (.bool true))), none⟩]))
          .skip))))))
    (.seq (.ops [
      ⟨(some 9), (.mv (.const (.int .u64 0))), none⟩])
     (.seq (.ops [
       ⟨(some 26), (.mv (.tmp 0)), none⟩, 
       ⟨(some 27), (.mv (.tmp 1)), none⟩, 
       ⟨(some 28), (.mv (.tmp 2)), none⟩, 
       ⟨(some 29), (.callF 51 [(.tmp 26), (.tmp 27), (.tmp 28)]), none⟩, 
       ⟨(some 25), (.mv (.tmp 29)), none⟩, 
       ⟨(some 30), (.extract (.tmp 25) 0), none⟩, 
       ⟨(some 31), (.extract (.tmp 25) 1), none⟩, 
       ⟨(some 9), (.mv (.tmp 30)), none⟩, 
       ⟨(some 7), (.mv (.tmp 31)), none⟩])
      (.seq (.seq (.ops [
         ⟨(some 32), (.mv (.tmp 7)), none⟩, 
         ⟨(some 33), (.isNil 0 true (.tmp 32)), none⟩, 
         ⟨(some 34), (.mv (.tmp 33)), none⟩, 
         ⟨(some 35), (.mv (.tmp 7)), (some (34, true))⟩, 
         ⟨(some 36), (.mkIface 63 (.const (.int .i64 1))), (some (34, true))⟩, 
         ⟨(some 37), (.eqI true (.tmp 35) (.tmp 36)), (some (34, true))⟩, 
         ⟨(some 38), (.pick (.tmp 34) (.tmp 37) (.const (.bool false))), none⟩])
        (.cond (.tmp 38)
         (.seq (.ops [
           ⟨(some 39), (.mv (.tmp 7)), none⟩, 
           ⟨(some 6), (.mv (.const (.int .i64 0))), none⟩, 
           ⟨(some 7), (.mv (.tmp 39)), none⟩])
          .ret)
         .skip))
       (.seq (.seq (.ops [
          ⟨(some 40), (.mv (.tmp 2)), none⟩, 
          ⟨(some 41), (.bin .eql (.tmp 40) (.const (.int .i64 0))), none⟩])
         (.cond (.tmp 41)
          (.ops [
           ⟨(some 2), (.mv (.const (.int .i64 64))), none⟩])
          .skip))
        (.seq (.ops [
          ⟨(some 42), (.mv (.tmp 2)), none⟩, 
          ⟨(some 43), (.bin .sub (.tmp 42) (.const (.int .i64 1))), none⟩, 
          ⟨(some 44), (.convInt .u64 (.tmp 43)), none⟩, 
          ⟨(some 45), (.bin .shl (.const (.int .u64 1)) (.tmp 44)), none⟩, 
          ⟨(some 10), (.mv (.tmp 45)), none⟩])
         (.seq (.seq (.ops [
            ⟨(some 46), (.mv (.tmp 8)), none⟩, 
            ⟨(some 47), (.un .not (.tmp 46)), none⟩, 
            ⟨(some 48), (.mv (.tmp 47)), none⟩, 
            ⟨(some 49), (.mv (.tmp 9)), (some (48, true))⟩, 
            ⟨(some 50), (.mv (.tmp 10)), (some (48, true))⟩, 
            ⟨(some 51), (.bin .geq (.tmp 49) (.tmp 50)), (some (48, true))⟩, 
            ⟨(some 52), (.pick (.tmp 48) (.tmp 51) (.const (.bool false))), none⟩])
           (.cond (.tmp 52)
            (.seq (.ops [
              ⟨(some 53), (.mv (.tmp 10)), none⟩, 
              ⟨(some 54), (.bin .sub (.tmp 53) (.const (.int .u64 1))), none⟩, 
              ⟨(some 55), (.convInt .i64 (.tmp 54)), none⟩, 
              ⟨(some 56), (.mkIface 63 (.const (.int .i64 1))), none⟩, 
              ⟨(some 6), (.mv (.tmp 55)), none⟩, 
              ⟨(some 7), (.mv (.tmp 56)), none⟩])
             .ret)
            .skip))
          (.seq (.seq (.ops [
             ⟨(some 57), (.mv (.tmp 8)), none⟩, 
             ⟨(some 58), (.mv (.tmp 57)), none⟩, 
             ⟨(some 59), (.mv (.tmp 9)), (some (58, true))⟩, 
             ⟨(some 60), (.mv (.tmp 10)), (some (58, true))⟩, 
             ⟨(some 61), (.bin .gtr (.tmp 59) (.tmp 60)), (some (58, true))⟩, 
             ⟨(some 62), (.pick (.tmp 58) (.tmp 61) (.const (.bool false))), none⟩])
            (.cond (.tmp 62)
             (.seq (.ops [
               ⟨(some 63), (.mv (.tmp 10)), none⟩, 
               ⟨(some 64), (.convInt .i64 (.tmp 63)), none⟩, 
               ⟨(some 65), (.un .neg (.tmp 64)), none⟩, 
               ⟨(some 66), (.mkIface 63 (.const (.int .i64 1))), none⟩, 
               ⟨(some 6), (.mv (.tmp 65)), none⟩, 
               ⟨(some 7), (.mv (.tmp 66)), none⟩])
              .ret)
             .skip))
           (.seq (.ops [
             ⟨(some 67), (.mv (.tmp 9)), none⟩, 
             ⟨(some 68), (.convInt .i64 (.tmp 67)), none⟩, 
             ⟨(some 11), (.mv (.tmp 68)), none⟩])
            (.seq (.seq (.ops [
               ⟨(some 69), (.mv (.tmp 8)), none⟩])
              (.cond (.tmp 69)
               (.ops [
                ⟨(some 70), (.mv (.tmp 11)), none⟩, 
                ⟨(some 71), (.un .neg (.tmp 70)), none⟩, 
                ⟨(some 11), (.mv (.tmp 71)), none⟩])
               .skip))
             (.seq (.ops [
               ⟨(some 72), (.mv (.tmp 11)), none⟩, 
               ⟨(some 6), (.mv (.tmp 72)), none⟩, 
               ⟨(some 7), (.mv (.const .nilIface)), none⟩])
              .ret))))))))))))))
theorem c47 {args : Array Value} {h : Heap} {R : Ending → Heap → Prop} (ha : args.size ≤ 73) (hh : aexec Tryd.prog ac47 (abody [(.slot 6), (.slot 7)] R) ⟨initFr args.toList, []⟩ h) : HCalls Tryd.prog 47 args h R :=
  hcalls_of Tryd.func47 rfl rfl (by kernel_rfl) (by kernel_rfl) ha hh
/-- 48: strconv.toError -/
def ac48 : ACode :=
 (.seq (.ops [
  ⟨(some 10), (.mv (.const .nilIface)), none⟩])
 (.seq (.seq (.ops [
    ⟨(some 11), (.mv (.tmp 4)), none⟩])
   (.block 0
    (.seq (.ops [
      ⟨(some 13), (.mkIface 63 (.const (.int .i64 2))), none⟩, 
      ⟨(some 14), (.eqI false (.tmp 11) (.tmp 13)), none⟩, 
      ⟨(some 12), (.mv (.tmp 14)), none⟩])
     (.cond (.tmp 12)
      (.seq (.ops [
        ⟨(some 15), (.mv (.tmp 0)), none⟩, 
        ⟨(some 16), (.mv (.tmp 1)), none⟩, 
        ⟨(some 17), (.callF 52 [(.tmp 15), (.tmp 16)]), none⟩, 
        ⟨(some 18), (.mkIface 66 (.tmp 17)), none⟩, 
        ⟨(some 10), (.mv (.tmp 18)), none⟩])
       .ret)
      (.seq (.ops [
        ⟨(some 20), (.mkIface 63 (.const (.int .i64 1))), none⟩, 
        ⟨(some 21), (.eqI false (.tmp 11) (.tmp 20)), none⟩, 
        ⟨(some 19), (.mv (.tmp 21)), none⟩])
       (.cond (.tmp 19)
        (.seq (.ops [
          ⟨(some 22), (.mv (.tmp 0)), none⟩, 
          ⟨(some 23), (.mv (.tmp 1)), none⟩, 
          ⟨(some 24), (.callF 53 [(.tmp 22), (.tmp 23)]), none⟩, 
          ⟨(some 25), (.mkIface 66 (.tmp 24)), none⟩, 
          ⟨(some 10), (.mv (.tmp 25)), none⟩])
         .ret)
        (.seq (.ops [
          ⟨(some 27), (.mkIface 63 (.const (.int .i64 3))), none⟩, 
          ⟨(some 28), (.eqI false (.tmp 11) (.tmp 27)), none⟩, 
          ⟨(some 26), (.mv (.tmp 28)), none⟩])
         (.cond (.tmp 26)
          (.seq (.ops [
            ⟨(some 29), (.mv (.tmp 0)), none⟩, 
            ⟨(some 30), (.mv (.tmp 1)), none⟩, 
            ⟨(some 31), (.mv (.tmp 2)), none⟩, 
            ⟨(some 32), (.callF 54 [(.tmp 29), (.tmp 30), (.tmp 31)]), none⟩, 
            ⟨(some 33), (.mkIface 66 (.tmp 32)), none⟩, 
            ⟨(some 10), (.mv (.tmp 33)), none⟩])
           .ret)
          (.seq (.ops [
            ⟨(some 35), (.mkIface 63 (.const (.int .i64 4))), none⟩, 
            ⟨(some 36), (.eqI false (.tmp 11) (.tmp 35)), none⟩, 
            ⟨(some 34), (.mv (.tmp 36)), none⟩])
           (.cond (.tmp 34)
            (.seq (.ops [
              ⟨(some 37), (.mv (.tmp 0)), none⟩, 
              ⟨(some 38), (.mv (.tmp 1)), none⟩, 
              ⟨(some 39), (.mv (.tmp 3)), none⟩, 
              ⟨(some 40), (.callF 55 [(.tmp 37), (.tmp 38), (.tmp 39)]), none⟩, 
              ⟨(some 41), (.mkIface 66 (.tmp 40)), none⟩, 
              ⟨(some 10), (.mv (.tmp 41)), none⟩])
             .ret)
            .skip))))))))))
  (.seq (.ops [
    ⟨(some 42), (.mv (.tmp 4)), none⟩, 
    ⟨(some 10), (.mv (.tmp 42)), none⟩])
   .ret)))
theorem c48 {args : Array Value} {h : Heap} {R : Ending → Heap → Prop} (ha : args.size ≤ 43) (hh : aexec Tryd.prog ac48 (abody [(.slot 10)] R) ⟨initFr args.toList, []⟩ h) : HCalls Tryd.prog 48 args h R :=
  hcalls_of Tryd.func48 rfl rfl (by kernel_rfl) (by kernel_rfl) ha hh
/-- 49: credenza/credenzaref01.Of -/
def ac49 : ACode :=
 (.seq (.ops [
  ⟨(some 2), (.mv (.const (.string ⟨#[]⟩))), none⟩, 
  ⟨(some 3), (.mv (.const (.int .i64 0))), none⟩])
 (.seq (.ops [
   ⟨(some 4), (.mv (.const (.slice none 0 0))), none⟩])
  (.seq (.seq (.ops [
     ⟨(some 5), (.mv (.const (.int .i64 0))), none⟩])
    (.block 0
     (.loop
      (.seq (.seq (.ops [
         ⟨(some 6), (.mv (.tmp 5)), none⟩, 
         ⟨(some 7), (.mv (.tmp 0)), none⟩, 
         ⟨(some 8), (.lenStr (.tmp 7)), none⟩, 
         ⟨(some 9), (.bin .lss (.tmp 6) (.tmp 8)), none⟩])
        (.cond (.tmp 9)
         .skip
         (.exit 0)))
       (.seq (.block 1
         (.seq (.seq (.ops [
            ⟨(some 12), (.mv (.tmp 0)), none⟩, 
            ⟨(some 13), (.mv (.tmp 5)), none⟩, 
            ⟨(some 14), (.idxStr (.tmp 12) (.tmp 13)), none⟩, 
            ⟨(some 15), (.bin .gtr (.tmp 14) (.const (.int .u8 127))), none⟩])
           (.cond (.tmp 15)
            (.seq (.ops [
              ⟨(some 2), (.mv (.const (.string ⟨#[]⟩))), none⟩, 
              ⟨(some 3), (.mv (.const (.int .i64 10))), none⟩])
             .ret)
            .skip))
          (.ops [
           ⟨(some 16), (.mv (.tmp 4)), none⟩, 
           ⟨(some 17), (.mv (.tmp 0)), none⟩, 
           ⟨(some 18), (.mv (.tmp 5)), none⟩, 
           ⟨(some 19), (.idxStr (.tmp 17) (.tmp 18)), none⟩, 
           ⟨(some 20), (.convInt .i64 (.tmp 19)), none⟩, 
           ⟨(some 21), (.buildSlice 3 1 [(.int .i64 0)] [(0, 1, (.tmp 20))]), none⟩, 
           ⟨(some 22), (.append 3 1 8 [(.int .i64 0)] (.tmp 16) (.tmp 21)), none⟩, 
           ⟨(some 4), (.mv (.tmp 22)), none⟩])))
        (.ops [
         ⟨(some 10), (.mv (.tmp 5)), none⟩, 
         ⟨(some 11), (.bin .add (.tmp 10) (.const (.int .i64 1))), none⟩, 
         ⟨(some 5), (.mv (.tmp 11)), none⟩]))))))
   (.seq (.ops [
     ⟨(some 23), (.mv (.tmp 4)), none⟩, 
     ⟨(some 24), (.callF 56 [(.tmp 23)]), none⟩, 
     ⟨(some 2), (.mv (.tmp 24)), none⟩, 
     ⟨(some 3), (.mv (.const (.int .i64 0))), none⟩])
    .ret))))
theorem c49 {args : Array Value} {h : Heap} {R : Ending → Heap → Prop} (ha : args.size ≤ 25) (hh : aexec Tryd.prog ac49 (abody [(.slot 2), (.slot 3)] R) ⟨initFr args.toList, []⟩ h) : HCalls Tryd.prog 49 args h R :=
  hcalls_of Tryd.func49 rfl rfl (by kernel_rfl) (by kernel_rfl) ha hh
/-- 50: internal/strconv.FormatInt -/
def ac50 : ACode :=
 (.seq (.ops [
  ⟨(some 4), (.mv (.const (.string ⟨#[]⟩))), none⟩])
 (.seq (.seq (.ops [
    ⟨(some 10), (.mv (.tmp 1)), none⟩, 
    ⟨(some 11), (.bin .eql (.tmp 10) (.const (.int .i64 10))), none⟩])
   (.cond (.tmp 11)
    (.seq (.seq (.ops [
       ⟨(some 12), (.mv (.tmp 0)), none⟩, 
       ⟨(some 13), (.bin .leq (.const (.int .i64 0)) (.tmp 12)), none⟩, 
       ⟨(some 14), (.mv (.tmp 13)), none⟩, 
       ⟨(some 15), (.mv (.tmp 0)), (some (14, true))⟩, 
       ⟨(some 16), (.bin .lss (.tmp 15) (.const (.int .i64 100))), (some (14, true))⟩, 
       ⟨(some 17), (.pick (.tmp 14) (.tmp 16) (.const (.bool false))), none⟩])
      (.cond (.tmp 17)
       (.seq (.ops [
         ⟨(some 18), (.mv (.tmp 0)), none⟩, 
         ⟨(some 19), (.callF 57 [(.tmp 18)]), none⟩, 
         ⟨(some 4), (.mv (.tmp 19)), none⟩])
        .ret)
       .skip))
     (.seq (.ops [
       ⟨(some 5), (.new 71 [(.int .u8 0), (.int .u8 0), (.int .u8 0), (.int .u8 0), (.int .u8 0), (.int .u8 0), (.int .u8 0), (.int .u8 0), (.int .u8 0), (.int .u8 0), (.int .u8 0), (.int .u8 0), (.int .u8 0), (.int .u8 0), (.int .u8 0), (.int .u8 0), (.int .u8 0), (.int .u8 0), (.int .u8 0), (.int .u8 0), (.int .u8 0), (.int .u8 0), (.int .u8 0), (.int .u8 0)]), none⟩])
      (.seq (.ops [
        ⟨(some 20), (.mv (.tmp 0)), none⟩, 
        ⟨(some 21), (.convInt .u64 (.tmp 20)), none⟩, 
        ⟨(some 6), (.mv (.tmp 21)), none⟩])
       (.seq (.seq (.ops [
          ⟨(some 22), (.mv (.tmp 0)), none⟩, 
          ⟨(some 23), (.bin .lss (.tmp 22) (.const (.int .i64 0))), none⟩])
         (.cond (.tmp 23)
          (.ops [
           ⟨(some 24), (.mv (.tmp 6)), none⟩, 
           ⟨(some 25), (.un .neg (.tmp 24)), none⟩, 
           ⟨(some 6), (.mv (.tmp 25)), none⟩])
          .skip))
        (.seq (.ops [
          ⟨(some 26), (.mv (.tmp 6)), none⟩, 
          ⟨(some 27), (.callF 58 [(.tmp 26)]), none⟩, 
          ⟨(some 7), (.mv (.tmp 27)), none⟩])
         (.seq (.ops [
           ⟨(some 28), (.mv (.tmp 7)), none⟩, 
           ⟨(some 29), (.bin .add (.const (.int .i64 1)) (.tmp 28)), none⟩, 
           ⟨(some 30), (.sliceArr 24 1 (.tmp 5) (some (.const (.int .i64 1))) (some (.tmp 29)) none), none⟩, 
           ⟨(some 31), (.mv (.tmp 6)), none⟩, 
           ⟨(some 32), (.callF 59 [(.tmp 30), (.tmp 31)]), none⟩])
          (.seq (.seq (.ops [
             ⟨(some 33), (.mv (.tmp 0)), none⟩, 
             ⟨(some 34), (.bin .lss (.tmp 33) (.const (.int .i64 0))), none⟩])
            (.cond (.tmp 34)
             (.seq (.ops [
               ⟨(some 35), (.idxArrP 24 1 (.tmp 5) (.const (.int .i64 0))), none⟩, 
               ⟨none, (.store1 (.tmp 35) (.const (.int .u8 45))), none⟩])
              (.seq (.ops [
                ⟨(some 36), (.mv (.tmp 7)), none⟩, 
                ⟨(some 37), (.bin .add (.const (.int .i64 1)) (.tmp 36)), none⟩, 
                ⟨(some 38), (.sliceArr 24 1 (.tmp 5) none (some (.tmp 37)) none), none⟩, 
                ⟨(some 39), (.strOfBytes (.tmp 38)), none⟩, 
                ⟨(some 4), (.mv (.tmp 39)), none⟩])
               .ret))
             .skip))
           (.seq (.ops [
             ⟨(some 40), (.mv (.tmp 7)), none⟩, 
             ⟨(some 41), (.bin .add (.const (.int .i64 1)) (.tmp 40)), none⟩, 
             ⟨(some 42), (.sliceArr 24 1 (.tmp 5) (some (.const (.int .i64 1))) (some (.tmp 41)) none), none⟩, 
             ⟨(some 43), (.strOfBytes (.tmp 42)), none⟩, 
             ⟨(some 4), (.mv (.tmp 43)), none⟩])
            .ret))))))))
    .skip))
  (.seq (.ops [
    ⟨(some 45), (.mv (.tmp 0)), none⟩, 
    ⟨(some 46), (.convInt .u64 (.tmp 45)), none⟩, 
    ⟨(some 47), (.mv (.tmp 1)), none⟩, 
    ⟨(some 48), (.mv (.tmp 0)), none⟩, 
    ⟨(some 49), (.bin .lss (.tmp 48) (.const (.int .i64 0))), none⟩, 
    ⟨(some 50), (.callF 60 [(.const (.slice none 0 0)), (.tmp 46), (.tmp 47), (.tmp 49), (.const (.bool false))]), none⟩, 
    ⟨(some 44), (.mv (.tmp 50)), none⟩, 
    ⟨(some 51), (.extract (.tmp 44) 0), none⟩, 
    ⟨(some 52), (.extract (.tmp 44) 1), none⟩, 
    ⟨(some 8), (.mv (.tmp 51)), none⟩, 
    ⟨(some 9), (.mv (.tmp 52)), none⟩])
   (.seq (.ops [
     ⟨(some 53), (.mv (.tmp 9)), none⟩, 
     ⟨(some 4), (.mv (.tmp 53)), none⟩])
    .ret))))
theorem c50 {args : Array Value} {h : Heap} {R : Ending → Heap → Prop} (ha : args.size ≤ 54) (hh : aexec Tryd.prog ac50 (abody [(.slot 4)] R) ⟨initFr args.toList, []⟩ h) : HCalls Tryd.prog 50 args h R :=
  hcalls_of Tryd.func50 rfl rfl (by kernel_rfl) (by kernel_rfl) ha hh
/-- 51: internal/strconv.ParseUint -/
def ac51 : ACode :=
 (.seq (.ops [
  ⟨(some 6), (.mv (.const (.int .u64 0))), none⟩, 
  ⟨(some 7), (.mv (.const .nilIface)), none⟩])
 (.seq (.seq (.ops [
    ⟨(some 18), (.mv (.tmp 0)), none⟩, 
    ⟨(some 19), (.bin .eql (.tmp 18) (.const (.string ⟨#[]⟩))), none⟩])
   (.cond (.tmp 19)
    (.seq (.ops [
      ⟨(some 20), (.mkIface 63 (.const (.int .i64 2))), none⟩, 
      ⟨(some 6), (.mv (.const (.int .u64 0))), none⟩, 
      ⟨(some 7), (.mv (.tmp 20)), none⟩])
     .ret)
    .skip))
  (.seq (.ops [
    ⟨(some 21), (.mv (.tmp 1)), none⟩, 
    ⟨(some 22), (.bin .eql (.tmp 21) (.const (.int .i64 0))), none⟩, 
    ⟨(some 8), (.mv (.tmp 22)), none⟩])
   (.seq (.ops [
     ⟨(some 23), (.mv (.tmp 0)), none⟩, 
     ⟨(some 9), (.mv (.tmp 23)), none⟩])
    (.seq (.block 0
      (.seq (.ops [
        ⟨(some 26), (.mv (.tmp 1)), none⟩, 
        ⟨(some 27), (.bin .leq (.const (.int .i64 2)) (.tmp 26)), none⟩, 
        ⟨(some 28), (.mv (.tmp 27)), none⟩, 
        ⟨(some 29), (.mv (.tmp 1)), (some (28, true))⟩, 
        ⟨(some 30), (.bin .leq (.tmp 29) (.const (.int .i64 36))), (some (28, true))⟩, 
        ⟨(some 31), (.pick (.tmp 28) (.tmp 30) (.const (.bool false))), none⟩, 
        ⟨(some 25), (.mv (.tmp 31)), none⟩])
       (.cond (.tmp 25)
        .skip
        (.seq (.ops [
          ⟨(some 33), (.mv (.tmp 1)), none⟩, 
          ⟨(some 34), (.bin .eql (.tmp 33) (.const (.int .i64 0))), none⟩, 
          ⟨(some 32), (.mv (.tmp 34)), none⟩])
         (.cond (.tmp 32)
          (.seq (.ops [
            ⟨(some 1), (.mv (.const (.int .i64 10))), none⟩])
           (.seq (.ops [
             ⟨(some 35), (.mv (.tmp 0)), none⟩, 
             ⟨(some 36), (.idxStr (.tmp 35) (.const (.int .i64 0))), none⟩, 
             ⟨(some 37), (.bin .eql (.tmp 36) (.const (.int .u8 48))), none⟩])
            (.cond (.tmp 37)
             (.block 1
              (.seq (.ops [
                ⟨(some 41), (.mv (.tmp 0)), none⟩, 
                ⟨(some 42), (.lenStr (.tmp 41)), none⟩, 
                ⟨(some 43), (.bin .geq (.tmp 42) (.const (.int .i64 3))), none⟩, 
                ⟨(some 44), (.mv (.tmp 43)), none⟩, 
                ⟨(some 45), (.mv (.tmp 0)), (some (44, true))⟩, 
                ⟨(some 46), (.idxStr (.tmp 45) (.const (.int .i64 1))), (some (44, true))⟩, 
                ⟨(some 47), (.callF 61 [(.tmp 46)]), (some (44, true))⟩, 
                ⟨(some 48), (.bin .eql (.tmp 47) (.const (.int .u8 98))), (some (44, true))⟩, 
                ⟨(some 49), (.pick (.tmp 44) (.tmp 48) (.const (.bool false))), none⟩, 
                ⟨(some 40), (.mv (.tmp 49)), none⟩])
               (.cond (.tmp 40)
                (.seq (.ops [
                  ⟨(some 1), (.mv (.const (.int .i64 2))), none⟩])
                 (.ops [
                  ⟨(some 50), (.mv (.tmp 0)), none⟩, 
                  ⟨(some 51), (.sliceStr (.tmp 50) (some (.const (.int .i64 2))) none), none⟩, 
                  ⟨(some 0), (.mv (.tmp 51)), none⟩]))
                (.seq (.ops [
                  ⟨(some 53), (.mv (.tmp 0)), none⟩, 
                  ⟨(some 54), (.lenStr (.tmp 53)), none⟩, 
                  ⟨(some 55), (.bin .geq (.tmp 54) (.const (.int .i64 3))), none⟩, 
                  ⟨(some 56), (.mv (.tmp 55)), none⟩, 
                  ⟨(some 57), (.mv (.tmp 0)), (some (56, true))⟩, 
                  ⟨(some 58), (.idxStr (.tmp 57) (.const (.int .i64 1))), (some (56, true))⟩, 
                  ⟨(some 59), (.callF 61 [(.tmp 58)]), (some (56, true))⟩, 
                  ⟨(some 60), (.bin .eql (.tmp 59) (.const (.int .u8 111))), (some (56, true))⟩, 
                  ⟨(some 61), (.pick (.tmp 56) (.tmp 60) (.const (.bool false))), none⟩, 
                  ⟨(some 52), (.mv (.tmp 61)), none⟩])
                 (.cond (.tmp 52)
                  (.seq (.ops [
                    ⟨(some 1), (.mv (.const (.int .i64 8))), none⟩])
                   (.ops [
                    ⟨(some 62), (.mv (.tmp 0)), none⟩, 
                    ⟨(some 63), (.sliceStr (.tmp 62) (some (.const (.int .i64 2))) none), none⟩, 
                    ⟨(some 0), (.mv (.tmp 63)), none⟩]))
                  (.seq (.ops [
                    ⟨(some 65), (.mv (.tmp 0)), none⟩, 
                    ⟨(some 66), (.lenStr (.tmp 65)), none⟩, 
                    ⟨(some 67), (.bin .geq (.tmp 66) (.const (.int .i64 3))), none⟩, 
                    ⟨(some 68), (.mv (.tmp 67)), none⟩, 
                    ⟨(some 69), (.mv (.tmp 0)), (some (68, true))⟩, 
                    ⟨(some 70), (.idxStr (.tmp 69) (.const (.int .i64 1))), (some (68, true))⟩, 
                    ⟨(some 71), (.callF 61 [(.tmp 70)]), (some (68, true))⟩, 
                    ⟨(some 72), (.bin .eql (.tmp 71) (.const (.int .u8 120))), (some (68, true))⟩, 
                    ⟨(some 73), (.pick (.tmp 68) (.tmp 72) (.const (.bool false))), none⟩, 
                    ⟨(some 64), (.mv (.tmp 73)), none⟩])
                   (.cond (.tmp 64)
                    (.seq (.ops [
                      ⟨(some 1), (.mv (.const (.int .i64 16))), none⟩])
                     (.ops [
                      ⟨(some 74), (.mv (.tmp 0)), none⟩, 
                      ⟨(some 75), (.sliceStr (.tmp 74) (some (.const (.int .i64 2))) none), none⟩, 
                      ⟨(some 0), (.mv (.tmp 75)), none⟩]))
                    (.seq (.ops [
                      ⟨(some 1), (.mv (.const (.int .i64 8))), none⟩])
                     (.ops [
                      ⟨(some 38), (.mv (.tmp 0)), none⟩, 
                      ⟨(some 39), (.sliceStr (.tmp 38) (some (.const (.int .i64 1))) none), none⟩, 
                      ⟨(some 0), (.mv (.tmp 39)), none⟩])))))))))
             .skip)))
          (.seq (.ops [
            ⟨(some 24), (.mkIface 63 (.const (.int .i64 3))), none⟩, 
            ⟨(some 6), (.mv (.const (.int .u64 0))), none⟩, 
            ⟨(some 7), (.mv (.tmp 24)), none⟩])
           .ret))))))
     (.seq (.seq (.ops [
        ⟨(some 76), (.mv (.tmp 2)), none⟩, 
        ⟨(some 77), (.bin .eql (.tmp 76) (.const (.int .i64 0))), none⟩])
       (.cond (.tmp 77)
        (.ops [
         ⟨(some 2), (.mv (.const (.int .i64 64))), none⟩])
        (.seq (.ops [
          ⟨(some 78), (.mv (.tmp 2)), none⟩, 
          ⟨(some 79), (.bin .lss (.tmp 78) (.const (.int .i64 0))), none⟩, 
          ⟨(some 80), (.mv (.tmp 79)), none⟩, 
          ⟨(some 81), (.mv (.tmp 2)), (some (80, false))⟩, 
          ⟨(some 82), (.bin .gtr (.tmp 81) (.const (.int .i64 64))), (some (80, false))⟩, 
          ⟨(some 83), (.pick (.tmp 80) (.const (.bool true)) (.tmp 82)), none⟩])
         (.cond (.tmp 83)
          (.seq (.ops [
            ⟨(some 84), (.mkIface 63 (.const (.int .i64 4))), none⟩, 
            ⟨(some 6), (.mv (.const (.int .u64 0))), none⟩, 
            ⟨(some 7), (.mv (.tmp 84)), none⟩])
           .ret)
          .skip))))
      (.seq (.ops [
        ⟨(some 10), (.mv (.const (.int .u64 0))), none⟩])
       (.seq (.seq (.ops [
          ⟨(some 85), (.mv (.tmp 1)), none⟩])
         (.block 2
          (.seq (.ops [
            ⟨(some 91), (.bin .eql (.tmp 85) (.const (.int .i64 10))), none⟩, 
            ⟨(some 90), (.mv (.tmp 91)), none⟩])
           (.cond (.tmp 90)
            (.ops [
             ⟨(some 10), (.mv (.const (.int .u64 1844674407370955162))), none⟩])
            (.seq (.ops [
              ⟨(some 93), (.bin .eql (.tmp 85) (.const (.int .i64 16))), none⟩, 
              ⟨(some 92), (.mv (.tmp 93)), none⟩])
             (.cond (.tmp 92)
              (.ops [
               ⟨(some 10), (.mv (.const (.int .u64 1152921504606846976))), none⟩])
              (.ops [
               ⟨(some 86), (.mv (.tmp 1)), none⟩, 
               ⟨(some 87), (.convInt .u64 (.tmp 86)), none⟩, 
               ⟨(some 88), (.bin .quo (.const (.int .u64 18446744073709551615)) (.tmp 87)), none⟩, 
               ⟨(some 89), (.bin .add (.tmp 88) (.const (.int .u64 1))), none⟩, 
               ⟨(some 10), (.mv (.tmp 89)), none⟩])))))))
        (.seq (.ops [
          ⟨(some 94), (.mv (.tmp 2)), none⟩, 
          ⟨(some 95), (.convInt .u64 (.tmp 94)), none⟩, 
          ⟨(some 96), (.bin .shl (.const (.int .u64 1)) (.tmp 95)), none⟩, 
          ⟨(some 97), (.bin .sub (.tmp 96) (.const (.int .u64 1))), none⟩, 
          ⟨(some 11), (.mv (.tmp 97)), none⟩])
         (.seq (.ops [
           ⟨(some 12), (.mv (.const (.bool false))), none⟩])
          (.seq (.ops [
            ⟨(some 13), (.mv (.const (.int .u64 0))), none⟩])
           (.seq (.seq (.ops [
              ⟨(some 98), (.mv (.tmp 0)), none⟩, 
              ⟨(some 99), (.bytesOfStr 5 (.tmp 98)), none⟩, 
              ⟨(some 100), (.lenSl (.tmp 99)), none⟩, 
              ⟨(some 101), (.mv (.const (.int .i64 0))), none⟩])
             (.block 3
              (.loop
               (.seq (.ops [
                 ⟨(some 102), (.bin .lss (.tmp 101) (.tmp 100)), none⟩])
                (.seq (.cond (.tmp 102)
                  .skip
                  (.exit 3))
                 (.seq (.block 4
                   (.seq (.ops [
                     ⟨(some 103), (.idxSl 1 (.tmp 99) (.tmp 101)), none⟩, 
                     ⟨(some 104), (.load1 (.tmp 103)), none⟩, 
                     ⟨(some 15), (.mv (.tmp 104)), none⟩])
                    (.seq (.ops [
                      ⟨(some 16), (.mv (.const (.int .u8 0))), none⟩])
                     (.seq (.block 5
                       (.seq (.ops [
                         ⟨(some 107), (.mv (.tmp 15)), none⟩, 
                         ⟨(some 108), (.bin .eql (.tmp 107) (.const (.int .u8 95))), none⟩, 
                         ⟨(some 109), (.mv (.tmp 108)), none⟩, 
                         ⟨(some 110), (.mv (.tmp 8)), (some (109, true))⟩, 
                         ⟨(some 111), (.pick (.tmp 109) (.tmp 110) (.const (.bool false))), none⟩, 
                         ⟨(some 106), (.mv (.tmp 111)), none⟩])
                        (.cond (.tmp 106)
                         (.seq (.ops [
                           ⟨(some 12), (.mv (.const (.bool true))), none⟩])
                          (.exit 4))
                         (.seq (.ops [
                           ⟨(some 113), (.mv (.tmp 15)), none⟩, 
                           ⟨(some 114), (.bin .leq (.const (.int .u8 48)) (.tmp 113)), none⟩, 
                           ⟨(some 115), (.mv (.tmp 114)), none⟩, 
                           ⟨(some 116), (.mv (.tmp 15)), (some (115, true))⟩, 
                           ⟨(some 117), (.bin .leq (.tmp 116) (.const (.int .u8 57))), (some (115, true))⟩, 
                           ⟨(some 118), (.pick (.tmp 115) (.tmp 117) (.const (.bool false))), none⟩, 
                           ⟨(some 112), (.mv (.tmp 118)), none⟩])
                          (.cond (.tmp 112)
                           (.ops [
                            ⟨(some 119), (.mv (.tmp 15)), none⟩, 
                            ⟨(some 120), (.bin .sub (.tmp 119) (.const (.int .u8 48))), none⟩, 
                            ⟨(some 16), (.mv (.tmp 120)), none⟩])
                           (.seq (.ops [
                             ⟨(some 122), (.mv (.tmp 15)), none⟩, 
                             ⟨(some 123), (.callF 61 [(.tmp 122)]), none⟩, 
                             ⟨(some 124), (.bin .leq (.const (.int .u8 97)) (.tmp 123)), none⟩, 
                             ⟨(some 125), (.mv (.tmp 124)), none⟩, 
                             ⟨(some 126), (.mv (.tmp 15)), (some (125, true))⟩, 
                             ⟨(some 127), (.callF 61 [(.tmp 126)]), (some (125, true))⟩, 
                             ⟨(some 128), (.bin .leq (.tmp 127) (.const (.int .u8 122))), (some (125, true))⟩, 
                             ⟨(some 129), (.pick (.tmp 125) (.tmp 128) (.const (.bool false))), none⟩, 
                             ⟨(some 121), (.mv (.tmp 129)), none⟩])
                            (.cond (.tmp 121)
                             (.ops [
                              ⟨(some 130), (.mv (.tmp 15)), none⟩, 
                              ⟨(some 131), (.callF 61 [(.tmp 130)]), none⟩, 
                              ⟨(some 132), (.bin .sub (.tmp 131) (.const (.int .u8 97))), none⟩, 
                              ⟨(some 133), (.bin .add (.tmp 132) (.const (.int .u8 10))), none⟩, 
                              ⟨(some 16), (.mv (.tmp 133)), none⟩])
                             (.seq (.ops [
                               ⟨(some 105), (.mkIface 63 (.const (.int .i64 2))), none⟩, 
                               ⟨(some 6), (.mv (.const (.int .u64 0))), none⟩, 
                               ⟨(some 7), (.mv (.tmp 105)), none⟩])
                              .ret))))))))
                      (.seq (.seq (.ops [
                         ⟨(some 134), (.mv (.tmp 16)), none⟩, 
                         ⟨(some 135), (.mv (.tmp 1)), none⟩, 
                         ⟨(some 136), (.convInt .u8 (.tmp 135)), none⟩, 
                         ⟨(some 137), (.bin .geq (.tmp 134) (.tmp 136)), none⟩])
                        (.cond (.tmp 137)
                         (.seq (.ops [
                           ⟨(some 138), (.mkIface 63 (.const (.int .i64 2))), none⟩, 
                           ⟨(some 6), (.mv (.const (.int .u64 0))), none⟩, 
                           ⟨(some 7), (.mv (.tmp 138)), none⟩])
                          .ret)
                         .skip))
                       (.seq (.seq (.ops [
                          ⟨(some 139), (.mv (.tmp 13)), none⟩, 
                          ⟨(some 140), (.mv (.tmp 10)), none⟩, 
                          ⟨(some 141), (.bin .geq (.tmp 139) (.tmp 140)), none⟩])
                         (.cond (.tmp 141)
                          (.seq (.ops [
                            ⟨(some 142), (.mv (.tmp 11)), none⟩, 
                            ⟨(some 143), (.mkIface 63 (.const (.int .i64 1))), none⟩, 
                            ⟨(some 6), (.mv (.tmp 142)), none⟩, 
                            ⟨(some 7), (.mv (.tmp 143)), none⟩])
                           .ret)
                          .skip))
                        (.seq (.ops [
                          ⟨(some 144), (.mv (.tmp 13)), none⟩, 
                          ⟨(some 145), (.mv (.tmp 1)), none⟩, 
                          ⟨(some 146), (.convInt .u64 (.tmp 145)), none⟩, 
                          ⟨(some 147), (.bin .mul (.tmp 144) (.tmp 146)), none⟩, 
                          ⟨(some 13), (.mv (.tmp 147)), none⟩])
                         (.seq (.ops [
                           ⟨(some 148), (.mv (.tmp 13)), none⟩, 
                           ⟨(some 149), (.mv (.tmp 16)), none⟩, 
                           ⟨(some 150), (.convInt .u64 (.tmp 149)), none⟩, 
                           ⟨(some 151), (.bin .add (.tmp 148) (.tmp 150)), none⟩, 
                           ⟨(some 17), (.mv (.tmp 151)), none⟩])
                          (.seq (.seq (.ops [
                             ⟨(some 152), (.mv (.tmp 17)), none⟩, 
                             ⟨(some 153), (.mv (.tmp 13)), none⟩, 
                             ⟨(some 154), (.bin .lss (.tmp 152) (.tmp 153)), none⟩, 
                             ⟨(some 155), (.mv (.tmp 154)), none⟩, 
                             ⟨(some 156), (.mv (.tmp 17)), (some (155, false))⟩, 
                             ⟨(some 157), (.mv (.tmp 11)), (some (155, false))⟩, 
                             ⟨(some 158), (.bin .gtr (.tmp 156) (.tmp 157)), (some (155, false))⟩, 
                             ⟨(some 159), (.pick (.tmp 155) (.const (.bool true)) (.tmp 158)), none⟩])
                            (.cond (.tmp 159)
                             (.seq (.ops [
                               ⟨(some 160), (.mv (.tmp 11)), none⟩, 
                               ⟨(some 161), (.mkIface 63 (.const (.int .i64 1))), none⟩, 
                               ⟨(some 6), (.mv (.tmp 160)), none⟩, 
                               ⟨(some 7), (.mv (.tmp 161)), none⟩])
                              .ret)
                             .skip))
                           (.ops [
                            ⟨(some 162), (.mv (.tmp 17)), none⟩, 
                            ⟨(some 13), (.mv (.tmp 162)), none⟩]))))))))))
                  (.ops [
                   ⟨(some 163), (.bin .add (.tmp 101) (.const (.int .i64 1))), none⟩, 
                   ⟨(some 101), (.mv (.tmp 163)), none⟩])))))))
            (.seq (.seq (.ops [
               ⟨(some 164), (.mv (.tmp 12)), none⟩, 
               ⟨(some 165), (.mv (.tmp 164)), none⟩, 
               ⟨(some 166), (.mv (.tmp 9)), (some (165, true))⟩, 
               ⟨(some 167), (.callF 62 [(.tmp 166)]), (some (165, true))⟩, 
               ⟨(some 168), (.un .not (.tmp 167)), (some (165, true))⟩, 
               ⟨(some 169), (.pick (.tmp 165) (.tmp 168) (.const (.bool false))), none⟩])
              (.cond (.tmp 169)
               (.seq (.ops [
                 ⟨(some 170), (.mkIface 63 (.const (.int .i64 2))), none⟩, 
                 ⟨(some 6), (.mv (.const (.int .u64 0))), none⟩, 
                 ⟨(some 7), (.mv (.tmp 170)), none⟩])
                .ret)
               .skip))
             (.seq (.ops [
               ⟨(some 171), (.mv (.tmp 13)), none⟩, 
               ⟨(some 6), (.mv (.tmp 171)), none⟩, 
               ⟨(some 7), (.mv (.const .nilIface)), none⟩])
              .ret))))))))))))))
theorem c51 {args : Array Value} {h : Heap} {R : Ending → Heap → Prop} (ha : args.size ≤ 172) (hh : aexec Tryd.prog ac51 (abody [(.slot 6), (.slot 7)] R) ⟨initFr args.toList, []⟩ h) : HCalls Tryd.prog 51 args h R :=
  hcalls_of Tryd.func51 rfl rfl (by kernel_rfl) (by kernel_rfl) ha hh
/-- 52: strconv.syntaxError -/
def ac52 : ACode :=
 (.seq (.ops [
  ⟨(some 4), (.mv (.const (.pointer none))), none⟩])
 (.seq (.seq (.any [5, 6, 7, 8, 9, 10, 4] [
    ⟨(some 5), (.mv (.tmp 0)), none⟩, 
    ⟨(some 6), (.mv (.tmp 1)), none⟩])
   (.alt
    (.any [5, 6, 7, 8, 9, 10, 4] [
     ⟨(some 7), (.callF 63 [(.tmp 6)]), none⟩, 
     ⟨(some 8), (.load1 (.global 0)), none⟩, 
     ⟨(some 9), (.build [(.string ⟨#[]⟩), (.string ⟨#[]⟩), .nilIface] [(0, 1, (.tmp 5)), (1, 1, (.tmp 7)), (2, 1, (.tmp 8))]), none⟩, 
     ⟨(some 10), (.box 78 (.tmp 9)), none⟩, 
     ⟨(some 4), (.mv (.tmp 10)), none⟩])
    (.any [5, 6, 7, 8, 9, 10, 4] [
     ⟨(some 8), (.load1 (.global 0)), none⟩, 
     ⟨(some 7), (.callF 63 [(.tmp 6)]), none⟩, 
     ⟨(some 9), (.build [(.string ⟨#[]⟩), (.string ⟨#[]⟩), .nilIface] [(0, 1, (.tmp 5)), (1, 1, (.tmp 7)), (2, 1, (.tmp 8))]), none⟩, 
     ⟨(some 10), (.box 78 (.tmp 9)), none⟩, 
     ⟨(some 4), (.mv (.tmp 10)), none⟩])))
  .ret))
theorem c52 {args : Array Value} {h : Heap} {R : Ending → Heap → Prop} (ha : args.size ≤ 11) (hh : aexec Tryd.prog ac52 (abody [(.slot 4)] R) ⟨initFr args.toList, []⟩ h) : HCalls Tryd.prog 52 args h R :=
  hcalls_of Tryd.func52 rfl rfl (by kernel_rfl) (by kernel_rfl) ha hh
/-- 53: strconv.rangeError -/
def ac53 : ACode :=
 (.seq (.ops [
  ⟨(some 4), (.mv (.const (.pointer none))), none⟩])
 (.seq (.seq (.any [5, 6, 7, 8, 9, 10, 4] [
    ⟨(some 5), (.mv (.tmp 0)), none⟩, 
    ⟨(some 6), (.mv (.tmp 1)), none⟩])
   (.alt
    (.any [5, 6, 7, 8, 9, 10, 4] [
     ⟨(some 7), (.callF 63 [(.tmp 6)]), none⟩, 
     ⟨(some 8), (.load1 (.global 1)), none⟩, 
     ⟨(some 9), (.build [(.string ⟨#[]⟩), (.string ⟨#[]⟩), .nilIface] [(0, 1, (.tmp 5)), (1, 1, (.tmp 7)), (2, 1, (.tmp 8))]), none⟩, 
     ⟨(some 10), (.box 78 (.tmp 9)), none⟩, 
     ⟨(some 4), (.mv (.tmp 10)), none⟩])
    (.any [5, 6, 7, 8, 9, 10, 4] [
     ⟨(some 8), (.load1 (.global 1)), none⟩, 
     ⟨(some 7), (.callF 63 [(.tmp 6)]), none⟩, 
     ⟨(some 9), (.build [(.string ⟨#[]⟩), (.string ⟨#[]⟩), .nilIface] [(0, 1, (.tmp 5)), (1, 1, (.tmp 7)), (2, 1, (.tmp 8))]), none⟩, 
     ⟨(some 10), (.box 78 (.tmp 9)), none⟩, 
     ⟨(some 4), (.mv (.tmp 10)), none⟩])))
  .ret))
theorem c53 {args : Array Value} {h : Heap} {R : Ending → Heap → Prop} (ha : args.size ≤ 11) (hh : aexec Tryd.prog ac53 (abody [(.slot 4)] R) ⟨initFr args.toList, []⟩ h) : HCalls Tryd.prog 53 args h R :=
  hcalls_of Tryd.func53 rfl rfl (by kernel_rfl) (by kernel_rfl) ha hh
/-- 54: strconv.baseError -/
def ac54 : ACode :=
 (.seq (.ops [
  ⟨(some 6), (.mv (.const (.pointer none))), none⟩])
 (.seq (.ops [
   ⟨(some 7), (.mv (.tmp 0)), none⟩, 
   ⟨(some 8), (.mv (.tmp 1)), none⟩, 
   ⟨(some 9), (.callF 63 [(.tmp 8)]), none⟩, 
   ⟨(some 10), (.mv (.tmp 2)), none⟩, 
   ⟨(some 11), (.callF 65 [(.tmp 10)]), none⟩, 
   ⟨(some 12), (.bin .add (.const (.string ⟨#[105, 110, 118, 97, 108, 105, 100, 32, 98, 97, 115, 101, 32]⟩)) (.tmp 11)), none⟩, 
   ⟨(some 13), (.callF 64 [(.tmp 12)]), none⟩, 
   ⟨(some 14), (.build [(.string ⟨#[]⟩), (.string ⟨#[]⟩), .nilIface] [(0, 1, (.tmp 7)), (1, 1, (.tmp 9)), (2, 1, (.tmp 13))]), none⟩, 
   ⟨(some 15), (.box 78 (.tmp 14)), none⟩, 
   ⟨(some 6), (.mv (.tmp 15)), none⟩])
  .ret))
theorem c54 {args : Array Value} {h : Heap} {R : Ending → Heap → Prop} (ha : args.size ≤ 16) (hh : aexec Tryd.prog ac54 (abody [(.slot 6)] R) ⟨initFr args.toList, []⟩ h) : HCalls Tryd.prog 54 args h R :=
  hcalls_of Tryd.func54 rfl rfl (by kernel_rfl) (by kernel_rfl) ha hh
/-- 55: strconv.bitSizeError -/
def ac55 : ACode :=
 (.seq (.ops [
  ⟨(some 6), (.mv (.const (.pointer none))), none⟩])
 (.seq (.ops [
   ⟨(some 7), (.mv (.tmp 0)), none⟩, 
   ⟨(some 8), (.mv (.tmp 1)), none⟩, 
   ⟨(some 9), (.callF 63 [(.tmp 8)]), none⟩, 
   ⟨(some 10), (.mv (.tmp 2)), none⟩, 
   ⟨(some 11), (.callF 65 [(.tmp 10)]), none⟩, 
   ⟨(some 12), (.bin .add (.const (.string ⟨#[105, 110, 118, 97, 108, 105, 100, 32, 98, 105, 116, 32, 115, 105, 122, 101, 32]⟩)) (.tmp 11)), none⟩, 
   ⟨(some 13), (.callF 64 [(.tmp 12)]), none⟩, 
   ⟨(some 14), (.build [(.string ⟨#[]⟩), (.string ⟨#[]⟩), .nilIface] [(0, 1, (.tmp 7)), (1, 1, (.tmp 9)), (2, 1, (.tmp 13))]), none⟩, 
   ⟨(some 15), (.box 78 (.tmp 14)), none⟩, 
   ⟨(some 6), (.mv (.tmp 15)), none⟩])
  .ret))
theorem c55 {args : Array Value} {h : Heap} {R : Ending → Heap → Prop} (ha : args.size ≤ 16) (hh : aexec Tryd.prog ac55 (abody [(.slot 6)] R) ⟨initFr args.toList, []⟩ h) : HCalls Tryd.prog 55 args h R :=
  hcalls_of Tryd.func55 rfl rfl (by kernel_rfl) (by kernel_rfl) ha hh
/-- 56: credenza/credenzaref01.Make -/
def ac56 : ACode :=
 (.seq (.ops [
  ⟨(some 2), (.mv (.const (.string ⟨#[]⟩))), none⟩])
 (.seq (.ops [
   ⟨(some 3), (.mv (.const (.slice none 0 0))), none⟩])
  (.seq (.seq (.ops [
     ⟨(some 6), (.mv (.tmp 0)), none⟩, 
     ⟨(some 7), (.lenSl (.tmp 6)), none⟩, 
     ⟨(some 8), (.mv (.const (.int .i64 0))), none⟩])
    (.block 0
     (.loop
      (.seq (.ops [
        ⟨(some 9), (.bin .lss (.tmp 8) (.tmp 7)), none⟩])
       (.seq (.cond (.tmp 9)
         .skip
         (.exit 0))
        (.seq (.block 1
          (.seq (.ops [
            ⟨(some 10), (.idxSl 1 (.tmp 6) (.tmp 8)), none⟩, 
            ⟨(some 11), (.load1 (.tmp 10)), none⟩, 
            ⟨(some 5), (.mv (.tmp 11)), none⟩])
           (.ops [
            ⟨(some 12), (.mv (.tmp 3)), none⟩, 
            ⟨(some 13), (.mv (.tmp 5)), none⟩, 
            ⟨(some 14), (.bin .quo (.tmp 13) (.const (.int .i64 256))), none⟩, 
            ⟨(some 15), (.convInt .u8 (.tmp 14)), none⟩, 
            ⟨(some 16), (.mv (.tmp 5)), none⟩, 
            ⟨(some 17), (.bin .rem (.tmp 16) (.const (.int .i64 256))), none⟩, 
            ⟨(some 18), (.convInt .u8 (.tmp 17)), none⟩, 
            ⟨(some 19), (.buildSlice 5 2 [(.int .u8 0), (.int .u8 0)] [(0, 1, (.tmp 15)), (1, 1, (.tmp 18))]), none⟩, 
            ⟨(some 20), (.append 5 1 1 [(.int .u8 0)] (.tmp 12) (.tmp 19)), none⟩, 
            ⟨(some 3), (.mv (.tmp 20)), none⟩])))
         (.ops [
          ⟨(some 21), (.bin .add (.tmp 8) (.const (.int .i64 1))), none⟩, 
          ⟨(some 8), (.mv (.tmp 21)), none⟩])))))))
   (.seq (.ops [
     ⟨(some 22), (.mv (.tmp 3)), none⟩, 
     ⟨(some 23), (.strOfBytes (.tmp 22)), none⟩, 
     ⟨(some 2), (.mv (.tmp 23)), none⟩])
    .ret))))
theorem c56 {args : Array Value} {h : Heap} {R : Ending → Heap → Prop} (ha : args.size ≤ 24) (hh : aexec Tryd.prog ac56 (abody [(.slot 2)] R) ⟨initFr args.toList, []⟩ h) : HCalls Tryd.prog 56 args h R :=
  hcalls_of Tryd.func56 rfl rfl (by kernel_rfl) (by kernel_rfl) ha hh
/-- 57: internal/strconv.small -/
def ac57 : ACode :=
 (.seq (.ops [
  ⟨(some 2), (.mv (.const (.string ⟨#[]⟩))), none⟩])
 (.seq (.seq (.ops [
    ⟨(some 3), (.mv (.tmp 0)), none⟩, 
    ⟨(some 4), (.bin .lss (.tmp 3) (.const (.int .i64 10))), none⟩])
   (.cond (.tmp 4)
    (.seq (.ops [
      ⟨(some 5), (.mv (.tmp 0)), none⟩, 
      ⟨(some 6), (.mv (.tmp 0)), none⟩, 
      ⟨(some 7), (.bin .add (.tmp 6) (.const (.int .i64 1))), none⟩, 
      ⟨(some 8), (.sliceStr (.const (.string ⟨#[48, 49, 50, 51, 52, 53, 54, 55, 56, 57, 97, 98, 99, 100, 101, 102, 103, 104, 105, 106, 107, 108, 109, 110, 111, 112, 113, 114, 115, 116, 117, 118, 119, 120, 121, 122]⟩)) (some (.tmp 5)) (some (.tmp 7))), none⟩, 
      ⟨(some 2), (.mv (.tmp 8)), none⟩])
     .ret)
    .skip))
  (.seq (.ops [
    ⟨(some 9), (.mv (.tmp 0)), none⟩, 
    ⟨(some 10), (.bin .mul (.tmp 9) (.const (.int .i64 2))), none⟩, 
    ⟨(some 11), (.mv (.tmp 0)), none⟩, 
    ⟨(some 12), (.bin .mul (.tmp 11) (.const (.int .i64 2))), none⟩, 
    ⟨(some 13), (.bin .add (.tmp 12) (.const (.int .i64 2))), none⟩, 
    ⟨(some 14), (.sliceStr (.const (.string ⟨#[48, 48, 48, 49, 48, 50, 48, 51, 48, 52, 48, 53, 48, 54, 48, 55, 48, 56, 48, 57, 49, 48, 49, 49, 49, 50, 49, 51, 49, 52, 49, 53, 49, 54, 49, 55, 49, 56, 49, 57, 50, 48, 50, 49, 50, 50, 50, 51, 50, 52, 50, 53, 50, 54, 50, 55, 50, 56, 50, 57, 51, 48, 51, 49, 51, 50, 51, 51, 51, 52, 51, 53, 51, 54, 51, 55, 51, 56, 51, 57, 52, 48, 52, 49, 52, 50, 52, 51, 52, 52, 52, 53, 52, 54, 52, 55, 52, 56, 52, 57, 53, 48, 53, 49, 53, 50, 53, 51, 53, 52, 53, 53, 53, 54, 53, 55, 53, 56, 53, 57, 54, 48, 54, 49, 54, 50, 54, 51, 54, 52, 54, 53, 54, 54, 54, 55, 54, 56, 54, 57, 55, 48, 55, 49, 55, 50, 55, 51, 55, 52, 55, 53, 55, 54, 55, 55, 55, 56, 55, 57, 56, 48, 56, 49, 56, 50, 56, 51, 56, 52, 56, 53, 56, 54, 56, 55, 56, 56, 56, 57, 57, 48, 57, 49, 57, 50, 57, 51, 57, 52, 57, 53, 57, 54, 57, 55, 57, 56, 57, 57]⟩)) (some (.tmp 10)) (some (.tmp 13))), none⟩, 
    ⟨(some 2), (.mv (.tmp 14)), none⟩])
   .ret)))
theorem c57 {args : Array Value} {h : Heap} {R : Ending → Heap → Prop} (ha : args.size ≤ 15) (hh : aexec Tryd.prog ac57 (abody [(.slot 2)] R) ⟨initFr args.toList, []⟩ h) : HCalls Tryd.prog 57 args h R :=
  hcalls_of Tryd.func57 rfl rfl (by kernel_rfl) (by kernel_rfl) ha hh
/-- 58: internal/strconv.numDigits -/
def ac58 : ACode :=
 (.seq (.ops [
  ⟨(some 2), (.mv (.const (.int .i64 0))), none⟩])
 (.seq (.ops [
   ⟨(some 4), (.mv (.tmp 0)), none⟩, 
   ⟨(some 5), (.callF 67 [(.tmp 4)]), none⟩, 
   ⟨(some 6), (.callF 66 [(.tmp 5)]), none⟩, 
   ⟨(some 3), (.mv (.tmp 6)), none⟩])
  (.seq (.ops [
    ⟨(some 7), (.mv (.tmp 3)), none⟩, 
    ⟨(some 8), (.mv (.tmp 0)), none⟩, 
    ⟨(some 9), (.mv (.tmp 3)), none⟩, 
    ⟨(some 10), (.idxArrP 20 1 (.global 2) (.tmp 9)), none⟩, 
    ⟨(some 11), (.load1 (.tmp 10)), none⟩, 
    ⟨(some 12), (.bin .geq (.tmp 8) (.tmp 11)), none⟩, 
    ⟨(some 13), (.callF 68 [(.tmp 12)]), none⟩, 
    ⟨(some 14), (.bin .add (.tmp 7) (.tmp 13)), none⟩, 
    ⟨(some 2), (.mv (.tmp 14)), none⟩])
   .ret)))
theorem c58 {args : Array Value} {h : Heap} {R : Ending → Heap → Prop} (ha : args.size ≤ 15) (hh : aexec Tryd.prog ac58 (abody [(.slot 2)] R) ⟨initFr args.toList, []⟩ h) : HCalls Tryd.prog 58 args h R :=
  hcalls_of Tryd.func58 rfl rfl (by kernel_rfl) (by kernel_rfl) ha hh
/-- 59: internal/strconv.formatBase10 -/
def ac59 : ACode :=
 (.seq (.ops [
  ⟨(some 17), (.mv (.tmp 0)), none⟩, 
  ⟨(some 18), (.lenSl (.tmp 17)), none⟩, 
  ⟨(some 4), (.mv (.tmp 18)), none⟩])
 (.seq (.block 0
   (.loop
    (.seq (.seq (.ops [
       ⟨(some 19), (.mv (.tmp 4)), none⟩, 
       ⟨(some 20), (.bin .geq (.tmp 19) (.const (.int .i64 8))), none⟩])
      (.cond (.tmp 20)
       .skip
       (.exit 0)))
     (.block 1
      (.seq (.ops [
        ⟨(some 21), (.mv (.tmp 1)), none⟩, 
        ⟨(some 22), (.bin .rem (.tmp 21) (.const (.int .u64 100000000))), none⟩, 
        ⟨(some 23), (.convInt .u32 (.tmp 22)), none⟩, 
        ⟨(some 5), (.mv (.tmp 23)), none⟩])
       (.seq (.ops [
         ⟨(some 24), (.mv (.tmp 1)), none⟩, 
         ⟨(some 25), (.bin .quo (.tmp 24) (.const (.int .u64 100000000))), none⟩, 
         ⟨(some 1), (.mv (.tmp 25)), none⟩])
        (.seq (.ops [
          ⟨(some 26), (.mv (.tmp 5)), none⟩, 
          ⟨(some 27), (.bin .quo (.tmp 26) (.const (.int .u32 10000))), none⟩, 
          ⟨(some 28), (.mv (.tmp 5)), none⟩, 
          ⟨(some 29), (.bin .rem (.tmp 28) (.const (.int .u32 10000))), none⟩, 
          ⟨(some 6), (.mv (.tmp 27)), none⟩, 
          ⟨(some 7), (.mv (.tmp 29)), none⟩])
         (.seq (.ops [
           ⟨(some 30), (.mv (.tmp 7)), none⟩, 
           ⟨(some 31), (.bin .quo (.tmp 30) (.const (.int .u32 100))), none⟩, 
           ⟨(some 32), (.bin .mul (.tmp 31) (.const (.int .u32 2))), none⟩, 
           ⟨(some 33), (.mv (.tmp 7)), none⟩, 
           ⟨(some 34), (.bin .rem (.tmp 33) (.const (.int .u32 100))), none⟩, 
           ⟨(some 35), (.bin .mul (.tmp 34) (.const (.int .u32 2))), none⟩, 
           ⟨(some 8), (.mv (.tmp 32)), none⟩, 
           ⟨(some 9), (.mv (.tmp 35)), none⟩])
          (.seq (.ops [
            ⟨(some 36), (.mv (.tmp 6)), none⟩, 
            ⟨(some 37), (.bin .quo (.tmp 36) (.const (.int .u32 100))), none⟩, 
            ⟨(some 38), (.bin .mul (.tmp 37) (.const (.int .u32 2))), none⟩, 
            ⟨(some 39), (.mv (.tmp 6)), none⟩, 
            ⟨(some 40), (.bin .rem (.tmp 39) (.const (.int .u32 100))), none⟩, 
            ⟨(some 41), (.bin .mul (.tmp 40) (.const (.int .u32 2))), none⟩, 
            ⟨(some 10), (.mv (.tmp 38)), none⟩, 
            ⟨(some 11), (.mv (.tmp 41)), none⟩])
           (.seq (.any [42, 43, 44, 45, 46, 47, 48, 49, 50, 51, 52, 53, 54] [
             ⟨(some 42), (.mv (.tmp 0)), none⟩, 
             ⟨(some 43), (.mv (.tmp 4)), none⟩, 
             ⟨(some 44), (.bin .sub (.tmp 43) (.const (.int .i64 1))), none⟩, 
             ⟨(some 45), (.mv (.tmp 0)), none⟩, 
             ⟨(some 46), (.mv (.tmp 4)), none⟩, 
             ⟨(some 47), (.bin .sub (.tmp 46) (.const (.int .i64 2))), none⟩, 
             ⟨(some 48), (.mv (.tmp 9)), none⟩, 
             ⟨(some 49), (.bin .add (.tmp 48) (.const (.int .u32 1))), none⟩, 
             ⟨(some 50), (.idxStr (.const (.string ⟨#[48, 48, 48, 49, 48, 50, 48, 51, 48, 52, 48, 53, 48, 54, 48, 55, 48, 56, 48, 57, 49, 48, 49, 49, 49, 50, 49, 51, 49, 52, 49, 53, 49, 54, 49, 55, 49, 56, 49, 57, 50, 48, 50, 49, 50, 50, 50, 51, 50, 52, 50, 53, 50, 54, 50, 55, 50, 56, 50, 57, 51, 48, 51, 49, 51, 50, 51, 51, 51, 52, 51, 53, 51, 54, 51, 55, 51, 56, 51, 57, 52, 48, 52, 49, 52, 50, 52, 51, 52, 52, 52, 53, 52, 54, 52, 55, 52, 56, 52, 57, 53, 48, 53, 49, 53, 50, 53, 51, 53, 52, 53, 53, 53, 54, 53, 55, 53, 56, 53, 57, 54, 48, 54, 49, 54, 50, 54, 51, 54, 52, 54, 53, 54, 54, 54, 55, 54, 56, 54, 57, 55, 48, 55, 49, 55, 50, 55, 51, 55, 52, 55, 53, 55, 54, 55, 55, 55, 56, 55, 57, 56, 48, 56, 49, 56, 50, 56, 51, 56, 52, 56, 53, 56, 54, 56, 55, 56, 56, 56, 57, 57, 48, 57, 49, 57, 50, 57, 51, 57, 52, 57, 53, 57, 54, 57, 55, 57, 56, 57, 57]⟩)) (.tmp 49)), none⟩, 
             ⟨(some 51), (.mv (.tmp 9)), none⟩, 
             ⟨(some 52), (.idxStr (.const (.string ⟨#[48, 48, 48, 49, 48, 50, 48, 51, 48, 52, 48, 53, 48, 54, 48, 55, 48, 56, 48, 57, 49, 48, 49, 49, 49, 50, 49, 51, 49, 52, 49, 53, 49, 54, 49, 55, 49, 56, 49, 57, 50, 48, 50, 49, 50, 50, 50, 51, 50, 52, 50, 53, 50, 54, 50, 55, 50, 56, 50, 57, 51, 48, 51, 49, 51, 50, 51, 51, 51, 52, 51, 53, 51, 54, 51, 55, 51, 56, 51, 57, 52, 48, 52, 49, 52, 50, 52, 51, 52, 52, 52, 53, 52, 54, 52, 55, 52, 56, 52, 57, 53, 48, 53, 49, 53, 50, 53, 51, 53, 52, 53, 53, 53, 54, 53, 55, 53, 56, 53, 57, 54, 48, 54, 49, 54, 50, 54, 51, 54, 52, 54, 53, 54, 54, 54, 55, 54, 56, 54, 57, 55, 48, 55, 49, 55, 50, 55, 51, 55, 52, 55, 53, 55, 54, 55, 55, 55, 56, 55, 57, 56, 48, 56, 49, 56, 50, 56, 51, 56, 52, 56, 53, 56, 54, 56, 55, 56, 56, 56, 57, 57, 48, 57, 49, 57, 50, 57, 51, 57, 52, 57, 53, 57, 54, 57, 55, 57, 56, 57, 57]⟩)) (.tmp 51)), none⟩, 
             ⟨(some 53), (.idxSl 1 (.tmp 42) (.tmp 44)), none⟩, 
             ⟨none, (.store1 (.tmp 53) (.tmp 50)), none⟩, 
             ⟨(some 54), (.idxSl 1 (.tmp 45) (.tmp 47)), none⟩, 
             ⟨none, (.store1 (.tmp 54) (.tmp 52)), none⟩])
            (.seq (.any [55, 56, 57, 58, 59, 60, 61, 62, 63, 64, 65, 66, 67] [
              ⟨(some 55), (.mv (.tmp 0)), none⟩, 
              ⟨(some 56), (.mv (.tmp 4)), none⟩, 
              ⟨(some 57), (.bin .sub (.tmp 56) (.const (.int .i64 3))), none⟩, 
              ⟨(some 58), (.mv (.tmp 0)), none⟩, 
              ⟨(some 59), (.mv (.tmp 4)), none⟩, 
              ⟨(some 60), (.bin .sub (.tmp 59) (.const (.int .i64 4))), none⟩, 
              ⟨(some 61), (.mv (.tmp 8)), none⟩, 
              ⟨(some 62), (.bin .add (.tmp 61) (.const (.int .u32 1))), none⟩, 
              ⟨(some 63), (.idxStr (.const (.string ⟨#[48, 48, 48, 49, 48, 50, 48, 51, 48, 52, 48, 53, 48, 54, 48, 55, 48, 56, 48, 57, 49, 48, 49, 49, 49, 50, 49, 51, 49, 52, 49, 53, 49, 54, 49, 55, 49, 56, 49, 57, 50, 48, 50, 49, 50, 50, 50, 51, 50, 52, 50, 53, 50, 54, 50, 55, 50, 56, 50, 57, 51, 48, 51, 49, 51, 50, 51, 51, 51, 52, 51, 53, 51, 54, 51, 55, 51, 56, 51, 57, 52, 48, 52, 49, 52, 50, 52, 51, 52, 52, 52, 53, 52, 54, 52, 55, 52, 56, 52, 57, 53, 48, 53, 49, 53, 50, 53, 51, 53, 52, 53, 53, 53, 54, 53, 55, 53, 56, 53, 57, 54, 48, 54, 49, 54, 50, 54, 51, 54, 52, 54, 53, 54, 54, 54, 55, 54, 56, 54, 57, 55, 48, 55, 49, 55, 50, 55, 51, 55, 52, 55, 53, 55, 54, 55, 55, 55, 56, 55, 57, 56, 48, 56, 49, 56, 50, 56, 51, 56, 52, 56, 53, 56, 54, 56, 55, 56, 56, 56, 57, 57, 48, 57, 49, 57, 50, 57, 51, 57, 52, 57, 53, 57, 54, 57, 55, 57, 56, 57, 57]⟩)) (.tmp 62)), none⟩, 
              ⟨(some 64), (.mv (.tmp 8)), none⟩, 
              ⟨(some 65), (.idxStr (.const (.string ⟨#[48, 48, 48, 49, 48, 50, 48, 51, 48, 52, 48, 53, 48, 54, 48, 55, 48, 56, 48, 57, 49, 48, 49, 49, 49, 50, 49, 51, 49, 52, 49, 53, 49, 54, 49, 55, 49, 56, 49, 57, 50, 48, 50, 49, 50, 50, 50, 51, 50, 52, 50, 53, 50, 54, 50, 55, 50, 56, 50, 57, 51, 48, 51, 49, 51, 50, 51, 51, 51, 52, 51, 53, 51, 54, 51, 55, 51, 56, 51, 57, 52, 48, 52, 49, 52, 50, 52, 51, 52, 52, 52, 53, 52, 54, 52, 55, 52, 56, 52, 57, 53, 48, 53, 49, 53, 50, 53, 51, 53, 52, 53, 53, 53, 54, 53, 55, 53, 56, 53, 57, 54, 48, 54, 49, 54, 50, 54, 51, 54, 52, 54, 53, 54, 54, 54, 55, 54, 56, 54, 57, 55, 48, 55, 49, 55, 50, 55, 51, 55, 52, 55, 53, 55, 54, 55, 55, 55, 56, 55, 57, 56, 48, 56, 49, 56, 50, 56, 51, 56, 52, 56, 53, 56, 54, 56, 55, 56, 56, 56, 57, 57, 48, 57, 49, 57, 50, 57, 51, 57, 52, 57, 53, 57, 54, 57, 55, 57, 56, 57, 57]⟩)) (.tmp 64)), none⟩, 
              ⟨(some 66), (.idxSl 1 (.tmp 55) (.tmp 57)), none⟩, 
              ⟨none, (.store1 (.tmp 66) (.tmp 63)), none⟩, 
              ⟨(some 67), (.idxSl 1 (.tmp 58) (.tmp 60)), none⟩, 
              ⟨none, (.store1 (.tmp 67) (.tmp 65)), none⟩])
             (.seq (.any [68, 69, 70, 71, 72, 73, 74, 75, 76, 77, 78, 79, 80] [
               ⟨(some 68), (.mv (.tmp 0)), none⟩, 
               ⟨(some 69), (.mv (.tmp 4)), none⟩, 
               ⟨(some 70), (.bin .sub (.tmp 69) (.const (.int .i64 5))), none⟩, 
               ⟨(some 71), (.mv (.tmp 0)), none⟩, 
               ⟨(some 72), (.mv (.tmp 4)), none⟩, 
               ⟨(some 73), (.bin .sub (.tmp 72) (.const (.int .i64 6))), none⟩, 
               ⟨(some 74), (.mv (.tmp 11)), none⟩, 
               ⟨(some 75), (.bin .add (.tmp 74) (.const (.int .u32 1))), none⟩, 
               ⟨(some 76), (.idxStr (.const (.string ⟨#[48, 48, 48, 49, 48, 50, 48, 51, 48, 52, 48, 53, 48, 54, 48, 55, 48, 56, 48, 57, 49, 48, 49, 49, 49, 50, 49, 51, 49, 52, 49, 53, 49, 54, 49, 55, 49, 56, 49, 57, 50, 48, 50, 49, 50, 50, 50, 51, 50, 52, 50, 53, 50, 54, 50, 55, 50, 56, 50, 57, 51, 48, 51, 49, 51, 50, 51, 51, 51, 52, 51, 53, 51, 54, 51, 55, 51, 56, 51, 57, 52, 48, 52, 49, 52, 50, 52, 51, 52, 52, 52, 53, 52, 54, 52, 55, 52, 56, 52, 57, 53, 48, 53, 49, 53, 50, 53, 51, 53, 52, 53, 53, 53, 54, 53, 55, 53, 56, 53, 57, 54, 48, 54, 49, 54, 50, 54, 51, 54, 52, 54, 53, 54, 54, 54, 55, 54, 56, 54, 57, 55, 48, 55, 49, 55, 50, 55, 51, 55, 52, 55, 53, 55, 54, 55, 55, 55, 56, 55, 57, 56, 48, 56, 49, 56, 50, 56, 51, 56, 52, 56, 53, 56, 54, 56, 55, 56, 56, 56, 57, 57, 48, 57, 49, 57, 50, 57, 51, 57, 52, 57, 53, 57, 54, 57, 55, 57, 56, 57, 57]⟩)) (.tmp 75)), none⟩, 
               ⟨(some 77), (.mv (.tmp 11)), none⟩, 
               ⟨(some 78), (.idxStr (.const (.string ⟨#[48, 48, 48, 49, 48, 50, 48, 51, 48, 52, 48, 53, 48, 54, 48, 55, 48, 56, 48, 57, 49, 48, 49, 49, 49, 50, 49, 51, 49, 52, 49, 53, 49, 54, 49, 55, 49, 56, 49, 57, 50, 48, 50, 49, 50, 50, 50, 51, 50, 52, 50, 53, 50, 54, 50, 55, 50, 56, 50, 57, 51, 48, 51, 49, 51, 50, 51, 51, 51, 52, 51, 53, 51, 54, 51, 55, 51, 56, 51, 57, 52, 48, 52, 49, 52, 50, 52, 51, 52, 52, 52, 53, 52, 54, 52, 55, 52, 56, 52, 57, 53, 48, 53, 49, 53, 50, 53, 51, 53, 52, 53, 53, 53, 54, 53, 55, 53, 56, 53, 57, 54, 48, 54, 49, 54, 50, 54, 51, 54, 52, 54, 53, 54, 54, 54, 55, 54, 56, 54, 57, 55, 48, 55, 49, 55, 50, 55, 51, 55, 52, 55, 53, 55, 54, 55, 55, 55, 56, 55, 57, 56, 48, 56, 49, 56, 50, 56, 51, 56, 52, 56, 53, 56, 54, 56, 55, 56, 56, 56, 57, 57, 48, 57, 49, 57, 50, 57, 51, 57, 52, 57, 53, 57, 54, 57, 55, 57, 56, 57, 57]⟩)) (.tmp 77)), none⟩, 
               ⟨(some 79), (.idxSl 1 (.tmp 68) (.tmp 70)), none⟩, 
               ⟨none, (.store1 (.tmp 79) (.tmp 76)), none⟩, 
               ⟨(some 80), (.idxSl 1 (.tmp 71) (.tmp 73)), none⟩, 
               ⟨none, (.store1 (.tmp 80) (.tmp 78)), none⟩])
              (.seq (.any [81, 82, 83, 84, 85, 86, 87, 88, 89, 90, 91, 92, 93] [
                ⟨(some 81), (.mv (.tmp 0)), none⟩, 
                ⟨(some 82), (.mv (.tmp 4)), none⟩, 
                ⟨(some 83), (.bin .sub (.tmp 82) (.const (.int .i64 7))), none⟩, 
                ⟨(some 84), (.mv (.tmp 0)), none⟩, 
                ⟨(some 85), (.mv (.tmp 4)), none⟩, 
                ⟨(some 86), (.bin .sub (.tmp 85) (.const (.int .i64 8))), none⟩, 
                ⟨(some 87), (.mv (.tmp 10)), none⟩, 
                ⟨(some 88), (.bin .add (.tmp 87) (.const (.int .u32 1))), none⟩, 
                ⟨(some 89), (.idxStr (.const (.string ⟨#[48, 48, 48, 49, 48, 50, 48, 51, 48, 52, 48, 53, 48, 54, 48, 55, 48, 56, 48, 57, 49, 48, 49, 49, 49, 50, 49, 51, 49, 52, 49, 53, 49, 54, 49, 55, 49, 56, 49, 57, 50, 48, 50, 49, 50, 50, 50, 51, 50, 52, 50, 53, 50, 54, 50, 55, 50, 56, 50, 57, 51, 48, 51, 49, 51, 50, 51, 51, 51, 52, 51, 53, 51, 54, 51, 55, 51, 56, 51, 57, 52, 48, 52, 49, 52, 50, 52, 51, 52, 52, 52, 53, 52, 54, 52, 55, 52, 56, 52, 57, 53, 48, 53, 49, 53, 50, 53, 51, 53, 52, 53, 53, 53, 54, 53, 55, 53, 56, 53, 57, 54, 48, 54, 49, 54, 50, 54, 51, 54, 52, 54, 53, 54, 54, 54, 55, 54, 56, 54, 57, 55, 48, 55, 49, 55, 50, 55, 51, 55, 52, 55, 53, 55, 54, 55, 55, 55, 56, 55, 57, 56, 48, 56, 49, 56, 50, 56, 51, 56, 52, 56, 53, 56, 54, 56, 55, 56, 56, 56, 57, 57, 48, 57, 49, 57, 50, 57, 51, 57, 52, 57, 53, 57, 54, 57, 55, 57, 56, 57, 57]⟩)) (.tmp 88)), none⟩, 
                ⟨(some 90), (.mv (.tmp 10)), none⟩, 
                ⟨(some 91), (.idxStr (.const (.string ⟨#[48, 48, 48, 49, 48, 50, 48, 51, 48, 52, 48, 53, 48, 54, 48, 55, 48, 56, 48, 57, 49, 48, 49, 49, 49, 50, 49, 51, 49, 52, 49, 53, 49, 54, 49, 55, 49, 56, 49, 57, 50, 48, 50, 49, 50, 50, 50, 51, 50, 52, 50, 53, 50, 54, 50, 55, 50, 56, 50, 57, 51, 48, 51, 49, 51, 50, 51, 51, 51, 52, 51, 53, 51, 54, 51, 55, 51, 56, 51, 57, 52, 48, 52, 49, 52, 50, 52, 51, 52, 52, 52, 53, 52, 54, 52, 55, 52, 56, 52, 57, 53, 48, 53, 49, 53, 50, 53, 51, 53, 52, 53, 53, 53, 54, 53, 55, 53, 56, 53, 57, 54, 48, 54, 49, 54, 50, 54, 51, 54, 52, 54, 53, 54, 54, 54, 55, 54, 56, 54, 57, 55, 48, 55, 49, 55, 50, 55, 51, 55, 52, 55, 53, 55, 54, 55, 55, 55, 56, 55, 57, 56, 48, 56, 49, 56, 50, 56, 51, 56, 52, 56, 53, 56, 54, 56, 55, 56, 56, 56, 57, 57, 48, 57, 49, 57, 50, 57, 51, 57, 52, 57, 53, 57, 54, 57, 55, 57, 56, 57, 57]⟩)) (.tmp 90)), none⟩, 
                ⟨(some 92), (.idxSl 1 (.tmp 81) (.tmp 83)), none⟩, 
                ⟨none, (.store1 (.tmp 92) (.tmp 89)), none⟩, 
                ⟨(some 93), (.idxSl 1 (.tmp 84) (.tmp 86)), none⟩, 
                ⟨none, (.store1 (.tmp 93) (.tmp 91)), none⟩])
               (.ops [
                ⟨(some 94), (.mv (.tmp 4)), none⟩, 
                ⟨(some 95), (.bin .sub (.tmp 94) (.const (.int .i64 8))), none⟩, 
                ⟨(some 4), (.mv (.tmp 95)), none⟩]))))))))))))))
  (.seq (.ops [
    ⟨(some 96), (.mv (.tmp 1)), none⟩, 
    ⟨(some 97), (.convInt .u32 (.tmp 96)), none⟩, 
    ⟨(some 12), (.mv (.tmp 97)), none⟩])
   (.seq (.seq (.ops [
      ⟨(some 98), (.mv (.tmp 4)), none⟩, 
      ⟨(some 99), (.bin .geq (.tmp 98) (.const (.int .i64 4))), none⟩])
     (.cond (.tmp 99)
      (.seq (.ops [
        ⟨(some 100), (.mv (.tmp 12)), none⟩, 
        ⟨(some 101), (.bin .rem (.tmp 100) (.const (.int .u32 10000))), none⟩, 
        ⟨(some 13), (.mv (.tmp 101)), none⟩])
       (.seq (.ops [
         ⟨(some 102), (.mv (.tmp 12)), none⟩, 
         ⟨(some 103), (.bin .quo (.tmp 102) (.const (.int .u32 10000))), none⟩, 
         ⟨(some 12), (.mv (.tmp 103)), none⟩])
        (.seq (.ops [
          ⟨(some 104), (.mv (.tmp 13)), none⟩, 
          ⟨(some 105), (.bin .quo (.tmp 104) (.const (.int .u32 100))), none⟩, 
          ⟨(some 106), (.bin .mul (.tmp 105) (.const (.int .u32 2))), none⟩, 
          ⟨(some 107), (.mv (.tmp 13)), none⟩, 
          ⟨(some 108), (.bin .rem (.tmp 107) (.const (.int .u32 100))), none⟩, 
          ⟨(some 109), (.bin .mul (.tmp 108) (.const (.int .u32 2))), none⟩, 
          ⟨(some 14), (.mv (.tmp 106)), none⟩, 
          ⟨(some 15), (.mv (.tmp 109)), none⟩])
         (.seq (.any [110, 111, 112, 113, 114, 115, 116, 117, 118, 119, 120, 121, 122] [
           ⟨(some 110), (.mv (.tmp 0)), none⟩, 
           ⟨(some 111), (.mv (.tmp 4)), none⟩, 
           ⟨(some 112), (.bin .sub (.tmp 111) (.const (.int .i64 1))), none⟩, 
           ⟨(some 113), (.mv (.tmp 0)), none⟩, 
           ⟨(some 114), (.mv (.tmp 4)), none⟩, 
           ⟨(some 115), (.bin .sub (.tmp 114) (.const (.int .i64 2))), none⟩, 
           ⟨(some 116), (.mv (.tmp 15)), none⟩, 
           ⟨(some 117), (.bin .add (.tmp 116) (.const (.int .u32 1))), none⟩, 
           ⟨(some 118), (.idxStr (.const (.string ⟨#[48, 48, 48, 49, 48, 50, 48, 51, 48, 52, 48, 53, 48, 54, 48, 55, 48, 56, 48, 57, 49, 48, 49, 49, 49, 50, 49, 51, 49, 52, 49, 53, 49, 54, 49, 55, 49, 56, 49, 57, 50, 48, 50, 49, 50, 50, 50, 51, 50, 52, 50, 53, 50, 54, 50, 55, 50, 56, 50, 57, 51, 48, 51, 49, 51, 50, 51, 51, 51, 52, 51, 53, 51, 54, 51, 55, 51, 56, 51, 57, 52, 48, 52, 49, 52, 50, 52, 51, 52, 52, 52, 53, 52, 54, 52, 55, 52, 56, 52, 57, 53, 48, 53, 49, 53, 50, 53, 51, 53, 52, 53, 53, 53, 54, 53, 55, 53, 56, 53, 57, 54, 48, 54, 49, 54, 50, 54, 51, 54, 52, 54, 53, 54, 54, 54, 55, 54, 56, 54, 57, 55, 48, 55, 49, 55, 50, 55, 51, 55, 52, 55, 53, 55, 54, 55, 55, 55, 56, 55, 57, 56, 48, 56, 49, 56, 50, 56, 51, 56, 52, 56, 53, 56, 54, 56, 55, 56, 56, 56, 57, 57, 48, 57, 49, 57, 50, 57, 51, 57, 52, 57, 53, 57, 54, 57, 55, 57, 56, 57, 57]⟩)) (.tmp 117)), none⟩, 
           ⟨(some 119), (.mv (.tmp 15)), none⟩, 
           ⟨(some 120), (.idxStr (.const (.string ⟨#[48, 48, 48, 49, 48, 50, 48, 51, 48, 52, 48, 53, 48, 54, 48, 55, 48, 56, 48, 57, 49, 48, 49, 49, 49, 50, 49, 51, 49, 52, 49, 53, 49, 54, 49, 55, 49, 56, 49, 57, 50, 48, 50, 49, 50, 50, 50, 51, 50, 52, 50, 53, 50, 54, 50, 55, 50, 56, 50, 57, 51, 48, 51, 49, 51, 50, 51, 51, 51, 52, 51, 53, 51, 54, 51, 55, 51, 56, 51, 57, 52, 48, 52, 49, 52, 50, 52, 51, 52, 52, 52, 53, 52, 54, 52, 55, 52, 56, 52, 57, 53, 48, 53, 49, 53, 50, 53, 51, 53, 52, 53, 53, 53, 54, 53, 55, 53, 56, 53, 57, 54, 48, 54, 49, 54, 50, 54, 51, 54, 52, 54, 53, 54, 54, 54, 55, 54, 56, 54, 57, 55, 48, 55, 49, 55, 50, 55, 51, 55, 52, 55, 53, 55, 54, 55, 55, 55, 56, 55, 57, 56, 48, 56, 49, 56, 50, 56, 51, 56, 52, 56, 53, 56, 54, 56, 55, 56, 56, 56, 57, 57, 48, 57, 49, 57, 50, 57, 51, 57, 52, 57, 53, 57, 54, 57, 55, 57, 56, 57, 57]⟩)) (.tmp 119)), none⟩, 
           ⟨(some 121), (.idxSl 1 (.tmp 110) (.tmp 112)), none⟩, 
           ⟨none, (.store1 (.tmp 121) (.tmp 118)), none⟩, 
           ⟨(some 122), (.idxSl 1 (.tmp 113) (.tmp 115)), none⟩, 
           ⟨none, (.store1 (.tmp 122) (.tmp 120)), none⟩])
          (.seq (.any [123, 124, 125, 126, 127, 128, 129, 130, 131, 132, 133, 134, 135] [
            ⟨(some 123), (.mv (.tmp 0)), none⟩, 
            ⟨(some 124), (.mv (.tmp 4)), none⟩, 
            ⟨(some 125), (.bin .sub (.tmp 124) (.const (.int .i64 3))), none⟩, 
            ⟨(some 126), (.mv (.tmp 0)), none⟩, 
            ⟨(some 127), (.mv (.tmp 4)), none⟩, 
            ⟨(some 128), (.bin .sub (.tmp 127) (.const (.int .i64 4))), none⟩, 
            ⟨(some 129), (.mv (.tmp 14)), none⟩, 
            ⟨(some 130), (.bin .add (.tmp 129) (.const (.int .u32 1))), none⟩, 
            ⟨(some 131), (.idxStr (.const (.string ⟨#[48, 48, 48, 49, 48, 50, 48, 51, 48, 52, 48, 53, 48, 54, 48, 55, 48, 56, 48, 57, 49, 48, 49, 49, 49, 50, 49, 51, 49, 52, 49, 53, 49, 54, 49, 55, 49, 56, 49, 57, 50, 48, 50, 49, 50, 50, 50, 51, 50, 52, 50, 53, 50, 54, 50, 55, 50, 56, 50, 57, 51, 48, 51, 49, 51, 50, 51, 51, 51, 52, 51, 53, 51, 54, 51, 55, 51, 56, 51, 57, 52, 48, 52, 49, 52, 50, 52, 51, 52, 52, 52, 53, 52, 54, 52, 55, 52, 56, 52, 57, 53, 48, 53, 49, 53, 50, 53, 51, 53, 52, 53, 53, 53, 54, 53, 55, 53, 56, 53, 57, 54, 48, 54, 49, 54, 50, 54, 51, 54, 52, 54, 53, 54, 54, 54, 55, 54, 56, 54, 57, 55, 48, 55, 49, 55, 50, 55, 51, 55, 52, 55, 53, 55, 54, 55, 55, 55, 56, 55, 57, 56, 48, 56, 49, 56, 50, 56, 51, 56, 52, 56, 53, 56, 54, 56, 55, 56, 56, 56, 57, 57, 48, 57, 49, 57, 50, 57, 51, 57, 52, 57, 53, 57, 54, 57, 55, 57, 56, 57, 57]⟩)) (.tmp 130)), none⟩, 
            ⟨(some 132), (.mv (.tmp 14)), none⟩, 
            ⟨(some 133), (.idxStr (.const (.string ⟨#[48, 48, 48, 49, 48, 50, 48, 51, 48, 52, 48, 53, 48, 54, 48, 55, 48, 56, 48, 57, 49, 48, 49, 49, 49, 50, 49, 51, 49, 52, 49, 53, 49, 54, 49, 55, 49, 56, 49, 57, 50, 48, 50, 49, 50, 50, 50, 51, 50, 52, 50, 53, 50, 54, 50, 55, 50, 56, 50, 57, 51, 48, 51, 49, 51, 50, 51, 51, 51, 52, 51, 53, 51, 54, 51, 55, 51, 56, 51, 57, 52, 48, 52, 49, 52, 50, 52, 51, 52, 52, 52, 53, 52, 54, 52, 55, 52, 56, 52, 57, 53, 48, 53, 49, 53, 50, 53, 51, 53, 52, 53, 53, 53, 54, 53, 55, 53, 56, 53, 57, 54, 48, 54, 49, 54, 50, 54, 51, 54, 52, 54, 53, 54, 54, 54, 55, 54, 56, 54, 57, 55, 48, 55, 49, 55, 50, 55, 51, 55, 52, 55, 53, 55, 54, 55, 55, 55, 56, 55, 57, 56, 48, 56, 49, 56, 50, 56, 51, 56, 52, 56, 53, 56, 54, 56, 55, 56, 56, 56, 57, 57, 48, 57, 49, 57, 50, 57, 51, 57, 52, 57, 53, 57, 54, 57, 55, 57, 56, 57, 57]⟩)) (.tmp 132)), none⟩, 
            ⟨(some 134), (.idxSl 1 (.tmp 123) (.tmp 125)), none⟩, 
            ⟨none, (.store1 (.tmp 134) (.tmp 131)), none⟩, 
            ⟨(some 135), (.idxSl 1 (.tmp 126) (.tmp 128)), none⟩, 
            ⟨none, (.store1 (.tmp 135) (.tmp 133)), none⟩])
           (.ops [
            ⟨(some 136), (.mv (.tmp 4)), none⟩, 
            ⟨(some 137), (.bin .sub (.tmp 136) (.const (.int .i64 4))), none⟩, 
            ⟨(some 4), (.mv (.tmp 137)), none⟩]))))))
      .skip))
    (.seq (.seq (.ops [
       ⟨(some 138), (.mv (.tmp 4)), none⟩, 
       ⟨(some 139), (.bin .geq (.tmp 138) (.const (.int .i64 2))), none⟩])
      (.cond (.tmp 139)
       (.seq (.ops [
         ⟨(some 140), (.mv (.tmp 12)), none⟩, 
         ⟨(some 141), (.bin .rem (.tmp 140) (.const (.int .u32 100))), none⟩, 
         ⟨(some 142), (.bin .mul (.tmp 141) (.const (.int .u32 2))), none⟩, 
         ⟨(some 16), (.mv (.tmp 142)), none⟩])
        (.seq (.ops [
          ⟨(some 143), (.mv (.tmp 12)), none⟩, 
          ⟨(some 144), (.bin .quo (.tmp 143) (.const (.int .u32 100))), none⟩, 
          ⟨(some 12), (.mv (.tmp 144)), none⟩])
         (.seq (.any [145, 146, 147, 148, 149, 150, 151, 152, 153, 154, 155, 156, 157] [
           ⟨(some 145), (.mv (.tmp 0)), none⟩, 
           ⟨(some 146), (.mv (.tmp 4)), none⟩, 
           ⟨(some 147), (.bin .sub (.tmp 146) (.const (.int .i64 1))), none⟩, 
           ⟨(some 148), (.mv (.tmp 0)), none⟩, 
           ⟨(some 149), (.mv (.tmp 4)), none⟩, 
           ⟨(some 150), (.bin .sub (.tmp 149) (.const (.int .i64 2))), none⟩, 
           ⟨(some 151), (.mv (.tmp 16)), none⟩, 
           ⟨(some 152), (.bin .add (.tmp 151) (.const (.int .u32 1))), none⟩, 
           ⟨(some 153), (.idxStr (.const (.string ⟨#[48, 48, 48, 49, 48, 50, 48, 51, 48, 52, 48, 53, 48, 54, 48, 55, 48, 56, 48, 57, 49, 48, 49, 49, 49, 50, 49, 51, 49, 52, 49, 53, 49, 54, 49, 55, 49, 56, 49, 57, 50, 48, 50, 49, 50, 50, 50, 51, 50, 52, 50, 53, 50, 54, 50, 55, 50, 56, 50, 57, 51, 48, 51, 49, 51, 50, 51, 51, 51, 52, 51, 53, 51, 54, 51, 55, 51, 56, 51, 57, 52, 48, 52, 49, 52, 50, 52, 51, 52, 52, 52, 53, 52, 54, 52, 55, 52, 56, 52, 57, 53, 48, 53, 49, 53, 50, 53, 51, 53, 52, 53, 53, 53, 54, 53, 55, 53, 56, 53, 57, 54, 48, 54, 49, 54, 50, 54, 51, 54, 52, 54, 53, 54, 54, 54, 55, 54, 56, 54, 57, 55, 48, 55, 49, 55, 50, 55, 51, 55, 52, 55, 53, 55, 54, 55, 55, 55, 56, 55, 57, 56, 48, 56, 49, 56, 50, 56, 51, 56, 52, 56, 53, 56, 54, 56, 55, 56, 56, 56, 57, 57, 48, 57, 49, 57, 50, 57, 51, 57, 52, 57, 53, 57, 54, 57, 55, 57, 56, 57, 57]⟩)) (.tmp 152)), none⟩, 
           ⟨(some 154), (.mv (.tmp 16)), none⟩, 
           ⟨(some 155), (.idxStr (.const (.string ⟨#[48, 48, 48, 49, 48, 50, 48, 51, 48, 52, 48, 53, 48, 54, 48, 55, 48, 56, 48, 57, 49, 48, 49, 49, 49, 50, 49, 51, 49, 52, 49, 53, 49, 54, 49, 55, 49, 56, 49, 57, 50, 48, 50, 49, 50, 50, 50, 51, 50, 52, 50, 53, 50, 54, 50, 55, 50, 56, 50, 57, 51, 48, 51, 49, 51, 50, 51, 51, 51, 52, 51, 53, 51, 54, 51, 55, 51, 56, 51, 57, 52, 48, 52, 49, 52, 50, 52, 51, 52, 52, 52, 53, 52, 54, 52, 55, 52, 56, 52, 57, 53, 48, 53, 49, 53, 50, 53, 51, 53, 52, 53, 53, 53, 54, 53, 55, 53, 56, 53, 57, 54, 48, 54, 49, 54, 50, 54, 51, 54, 52, 54, 53, 54, 54, 54, 55, 54, 56, 54, 57, 55, 48, 55, 49, 55, 50, 55, 51, 55, 52, 55, 53, 55, 54, 55, 55, 55, 56, 55, 57, 56, 48, 56, 49, 56, 50, 56, 51, 56, 52, 56, 53, 56, 54, 56, 55, 56, 56, 56, 57, 57, 48, 57, 49, 57, 50, 57, 51, 57, 52, 57, 53, 57, 54, 57, 55, 57, 56, 57, 57]⟩)) (.tmp 154)), none⟩, 
           ⟨(some 156), (.idxSl 1 (.tmp 145) (.tmp 147)), none⟩, 
           ⟨none, (.store1 (.tmp 156) (.tmp 153)), none⟩, 
           ⟨(some 157), (.idxSl 1 (.tmp 148) (.tmp 150)), none⟩, 
           ⟨none, (.store1 (.tmp 157) (.tmp 155)), none⟩])
          (.ops [
           ⟨(some 158), (.mv (.tmp 4)), none⟩, 
           ⟨(some 159), (.bin .sub (.tmp 158) (.const (.int .i64 2))), none⟩, 
           ⟨(some 4), (.mv (.tmp 159)), none⟩]))))
       .skip))
     (.seq (.ops [
       ⟨(some 160), (.mv (.tmp 4)), none⟩, 
       ⟨(some 161), (.bin .gtr (.tmp 160) (.const (.int .i64 0))), none⟩])
      (.cond (.tmp 161)
       (.ops [
        ⟨(some 162), (.mv (.tmp 0)), none⟩, 
        ⟨(some 163), (.mv (.tmp 12)), none⟩, 
        ⟨(some 164), (.bin .add (.const (.int .u32 48)) (.tmp 163)), none⟩, 
        ⟨(some 165), (.convInt .u8 (.tmp 164)), none⟩, 
        ⟨(some 166), (.idxSl 1 (.tmp 162) (.const (.int .i64 0))), none⟩, 
        ⟨none, (.store1 (.tmp 166) (.tmp 165)), none⟩])
       .skip)))))))
theorem c59 {args : Array Value} {h : Heap} {R : Ending → Heap → Prop} (ha : args.size ≤ 167) (hh : aexec Tryd.prog ac59 (abody [] R) ⟨initFr args.toList, []⟩ h) : HCalls Tryd.prog 59 args h R :=
  hcalls_of Tryd.func59 rfl rfl (by kernel_rfl) (by kernel_rfl) ha hh
/-- 60: internal/strconv.formatBits -/
def ac60 : ACode :=
 (.seq (.ops [
  ⟨(some 10), (.mv (.const (.slice none 0 0))), none⟩, 
  ⟨(some 11), (.mv (.const (.string ⟨#[]⟩))), none⟩])
 (.seq (.seq (.ops [
    ⟨(some 19), (.mv (.tmp 2)), none⟩, 
    ⟨(some 20), (.bin .lss (.tmp 19) (.const (.int .i64 2))), none⟩, 
    ⟨(some 21), (.mv (.tmp 20)), none⟩, 
    ⟨(some 22), (.mv (.tmp 2)), (some (21, false))⟩, 
    ⟨(some 23), (.bin .eql (.tmp 22) (.const (.int .i64 10))), (some (21, false))⟩, 
    ⟨(some 24), (.pick (.tmp 21) (.const (.bool true)) (.tmp 23)), none⟩, 
    ⟨(some 25), (.mv (.tmp 24)), none⟩, 
    ⟨(some 26), (.mv (.tmp 2)), (some (25, false))⟩, 
    ⟨(some 27), (.bin .gtr (.tmp 26) (.const (.int .i64 36))), (some (25, false))⟩, 
    ⟨(some 28), (.pick (.tmp 25) (.const (.bool true)) (.tmp 27)), none⟩])
   (.cond (.tmp 28)
    (.ops [
     ⟨(some 29), (.mkIface 9 (.const (.string ⟨#[115, 116, 114, 99, 111, 110, 118, 58, 32, 105, 108, 108, 101, 103, 97, 108, 32, 65, 112, 112, 101, 110, 100, 73, 110, 116, 47, 70, 111, 114, 109, 97, 116, 73, 110, 116, 32, 98, 97, 115, 101]⟩))), none⟩, 
     ⟨none, (.panicI (.tmp 29)), none⟩])
    .skip))
  (.seq (.ops [
    ⟨(some 12), (.new 84 [(.int .u8 0), (.int .u8 0), (.int .u8 0), (.int .u8 0), (.int .u8 0), (.int .u8 0), (.int .u8 0), (.int .u8 0), (.int .u8 0), (.int .u8 0), (.int .u8 0), (.int .u8 0), (.int .u8 0), (.int .u8 0), (.int .u8 0), (.int .u8 0), (.int .u8 0), (.int .u8 0), (.int .u8 0), (.int .u8 0), (.int .u8 0), (.int .u8 0), (.int .u8 0), (.int .u8 0), (.int .u8 0), (.int .u8 0), (.int .u8 0), (.int .u8 0), (.int .u8 0), (.int .u8 0), (.int .u8 0), (.int .u8 0), (.int .u8 0), (.int .u8 0), (.int .u8 0), (.int .u8 0), (.int .u8 0), (.int .u8 0), (.int .u8 0), (.int .u8 0), (.int .u8 0), (.int .u8 0), (.int .u8 0), (.int .u8 0), (.int .u8 0), (.int .u8 0), (.int .u8 0), (.int .u8 0), (.int .u8 0), (.int .u8 0), (.int .u8 0), (.int .u8 0), (.int .u8 0), (.int .u8 0), (.int .u8 0), (.int .u8 0), (.int .u8 0), (.int .u8 0), (.int .u8 0), (.int .u8 0), (.int .u8 0), (.int .u8 0), (.int .u8 0), (.int .u8 0), (.int .u8 0)]), none⟩])
   (.seq (.ops [
     ⟨(some 13), (.mv (.const (.int .i64 65))), none⟩])
    (.seq (.seq (.ops [
       ⟨(some 30), (.mv (.tmp 3)), none⟩])
      (.cond (.tmp 30)
       (.ops [
        ⟨(some 31), (.mv (.tmp 1)), none⟩, 
        ⟨(some 32), (.un .neg (.tmp 31)), none⟩, 
        ⟨(some 1), (.mv (.tmp 32)), none⟩])
       .skip))
     (.seq (.seq (.ops [
        ⟨(some 33), (.mv (.tmp 2)), none⟩, 
        ⟨(some 34), (.callF 69 [(.tmp 33)]), none⟩])
       (.cond (.tmp 34)
        (.seq (.ops [
          ⟨(some 35), (.mv (.tmp 2)), none⟩, 
          ⟨(some 36), (.convInt .u64 (.tmp 35)), none⟩, 
          ⟨(some 37), (.callF 70 [(.tmp 36)]), none⟩, 
          ⟨(some 38), (.convInt .u64 (.tmp 37)), none⟩, 
          ⟨(some 14), (.mv (.tmp 38)), none⟩])
         (.seq (.ops [
           ⟨(some 39), (.mv (.tmp 2)), none⟩, 
           ⟨(some 40), (.convInt .u64 (.tmp 39)), none⟩, 
           ⟨(some 15), (.mv (.tmp 40)), none⟩])
          (.seq (.ops [
            ⟨(some 41), (.mv (.tmp 2)), none⟩, 
            ⟨(some 42), (.convInt .u64 (.tmp 41)), none⟩, 
            ⟨(some 43), (.bin .sub (.tmp 42) (.const (.int .u64 1))), none⟩, 
            ⟨(some 16), (.mv (.tmp 43)), none⟩])
           (.seq (.block 0
             (.loop
              (.seq (.seq (.ops [
                 ⟨(some 44), (.mv (.tmp 1)), none⟩, 
                 ⟨(some 45), (.mv (.tmp 15)), none⟩, 
                 ⟨(some 46), (.bin .geq (.tmp 44) (.tmp 45)), none⟩])
                (.cond (.tmp 46)
                 .skip
                 (.exit 0)))
               (.block 1
                (.seq (.ops [
                  ⟨(some 47), (.mv (.tmp 13)), none⟩, 
                  ⟨(some 48), (.bin .sub (.tmp 47) (.const (.int .i64 1))), none⟩, 
                  ⟨(some 13), (.mv (.tmp 48)), none⟩])
                 (.seq (.ops [
                   ⟨(some 49), (.mv (.tmp 13)), none⟩, 
                   ⟨(some 50), (.mv (.tmp 1)), none⟩, 
                   ⟨(some 51), (.mv (.tmp 16)), none⟩, 
                   ⟨(some 52), (.bin .and (.tmp 50) (.tmp 51)), none⟩, 
                   ⟨(some 53), (.idxStr (.const (.string ⟨#[48, 49, 50, 51, 52, 53, 54, 55, 56, 57, 97, 98, 99, 100, 101, 102, 103, 104, 105, 106, 107, 108, 109, 110, 111, 112, 113, 114, 115, 116, 117, 118, 119, 120, 121, 122]⟩)) (.tmp 52)), none⟩, 
                   ⟨(some 54), (.idxArrP 65 1 (.tmp 12) (.tmp 49)), none⟩, 
                   ⟨none, (.store1 (.tmp 54) (.tmp 53)), none⟩])
                  (.ops [
                   ⟨(some 55), (.mv (.tmp 1)), none⟩, 
                   ⟨(some 56), (.mv (.tmp 14)), none⟩, 
                   ⟨(some 57), (.bin .shr (.tmp 55) (.tmp 56)), none⟩, 
                   ⟨(some 1), (.mv (.tmp 57)), none⟩])))))))
            (.seq (.ops [
              ⟨(some 58), (.mv (.tmp 13)), none⟩, 
              ⟨(some 59), (.bin .sub (.tmp 58) (.const (.int .i64 1))), none⟩, 
              ⟨(some 13), (.mv (.tmp 59)), none⟩])
             (.ops [
              ⟨(some 60), (.mv (.tmp 13)), none⟩, 
              ⟨(some 61), (.mv (.tmp 1)), none⟩, 
              ⟨(some 62), (.idxStr (.const (.string ⟨#[48, 49, 50, 51, 52, 53, 54, 55, 56, 57, 97, 98, 99, 100, 101, 102, 103, 104, 105, 106, 107, 108, 109, 110, 111, 112, 113, 114, 115, 116, 117, 118, 119, 120, 121, 122]⟩)) (.tmp 61)), none⟩, 
              ⟨(some 63), (.idxArrP 65 1 (.tmp 12) (.tmp 60)), none⟩, 
              ⟨none, (.store1 (.tmp 63) (.tmp 62)), none⟩]))))))
        (.seq (.ops [
          ⟨(some 64), (.mv (.tmp 2)), none⟩, 
          ⟨(some 65), (.convInt .u64 (.tmp 64)), none⟩, 
          ⟨(some 17), (.mv (.tmp 65)), none⟩])
         (.seq (.block 2
           (.loop
            (.seq (.seq (.ops [
               ⟨(some 66), (.mv (.tmp 1)), none⟩, 
               ⟨(some 67), (.mv (.tmp 17)), none⟩, 
               ⟨(some 68), (.bin .geq (.tmp 66) (.tmp 67)), none⟩])
              (.cond (.tmp 68)
               .skip
               (.exit 2)))
             (.block 3
              (.seq (.ops [
                ⟨(some 69), (.mv (.tmp 13)), none⟩, 
                ⟨(some 70), (.bin .sub (.tmp 69) (.const (.int .i64 1))), none⟩, 
                ⟨(some 13), (.mv (.tmp 70)), none⟩])
               (.seq (.ops [
                 ⟨(some 71), (.mv (.tmp 1)), none⟩, 
                 ⟨(some 72), (.mv (.tmp 17)), none⟩, 
                 ⟨(some 73), (.bin .quo (.tmp 71) (.tmp 72)), none⟩, 
                 ⟨(some 18), (.mv (.tmp 73)), none⟩])
                (.seq (.ops [
                  ⟨(some 74), (.mv (.tmp 13)), none⟩, 
                  ⟨(some 75), (.mv (.tmp 1)), none⟩, 
                  ⟨(some 76), (.mv (.tmp 18)), none⟩, 
                  ⟨(some 77), (.mv (.tmp 17)), none⟩, 
                  ⟨(some 78), (.bin .mul (.tmp 76) (.tmp 77)), none⟩, 
                  ⟨(some 79), (.bin .sub (.tmp 75) (.tmp 78)), none⟩, 
                  ⟨(some 80), (.idxStr (.const (.string ⟨#[48, 49, 50, 51, 52, 53, 54, 55, 56, 57, 97, 98, 99, 100, 101, 102, 103, 104, 105, 106, 107, 108, 109, 110, 111, 112, 113, 114, 115, 116, 117, 118, 119, 120, 121, 122]⟩)) (.tmp 79)), none⟩, 
                  ⟨(some 81), (.idxArrP 65 1 (.tmp 12) (.tmp 74)), none⟩, 
                  ⟨none, (.store1 (.tmp 81) (.tmp 80)), none⟩])
                 (.ops [
                  ⟨(some 82), (.mv (.tmp 18)), none⟩, 
                  ⟨(some 1), (.mv (.tmp 82)), none⟩]))))))))
          (.seq (.ops [
            ⟨(some 83), (.mv (.tmp 13)), none⟩, 
            ⟨(some 84), (.bin .sub (.tmp 83) (.const (.int .i64 1))), none⟩, 
            ⟨(some 13), (.mv (.tmp 84)), none⟩])
           (.ops [
            ⟨(some 85), (.mv (.tmp 13)), none⟩, 
            ⟨(some 86), (.mv (.tmp 1)), none⟩, 
            ⟨(some 87), (.idxStr (.const (.string ⟨#[48, 49, 50, 51, 52, 53, 54, 55, 56, 57, 97, 98, 99, 100, 101, 102, 103, 104, 105, 106, 107, 108, 109, 110, 111, 112, 113, 114, 115, 116, 117, 118, 119, 120, 121, 122]⟩)) (.tmp 86)), none⟩, 
            ⟨(some 88), (.idxArrP 65 1 (.tmp 12) (.tmp 85)), none⟩, 
            ⟨none, (.store1 (.tmp 88) (.tmp 87)), none⟩]))))))
      (.seq (.seq (.ops [
         ⟨(some 89), (.mv (.tmp 3)), none⟩])
        (.cond (.tmp 89)
         (.seq (.ops [
           ⟨(some 90), (.mv (.tmp 13)), none⟩, 
           ⟨(some 91), (.bin .sub (.tmp 90) (.const (.int .i64 1))), none⟩, 
           ⟨(some 13), (.mv (.tmp 91)), none⟩])
          (.ops [
           ⟨(some 92), (.mv (.tmp 13)), none⟩, 
           ⟨(some 93), (.idxArrP 65 1 (.tmp 12) (.tmp 92)), none⟩, 
           ⟨none, (.store1 (.tmp 93) (.const (.int .u8 45))), none⟩]))
         .skip))
       (.seq (.seq (.ops [
          ⟨(some 94), (.mv (.tmp 4)), none⟩])
         (.cond (.tmp 94)
          (.seq (.ops [
            ⟨(some 95), (.mv (.tmp 0)), none⟩, 
            ⟨(some 96), (.mv (.tmp 13)), none⟩, 
            ⟨(some 97), (.sliceArr 65 1 (.tmp 12) (some (.tmp 96)) none none), none⟩, 
            ⟨(some 98), (.append 5 1 1 [(.int .u8 0)] (.tmp 95) (.tmp 97)), none⟩, 
            ⟨(some 10), (.mv (.tmp 98)), none⟩])
           .ret)
          .skip))
        (.seq (.ops [
          ⟨(some 99), (.mv (.tmp 13)), none⟩, 
          ⟨(some 100), (.sliceArr 65 1 (.tmp 12) (some (.tmp 99)) none none), none⟩, 
          ⟨(some 101), (.strOfBytes (.tmp 100)), none⟩, 
          ⟨(some 11), (.mv (.tmp 101)), none⟩])
         .ret)))))))))
theorem c60 {args : Array Value} {h : Heap} {R : Ending → Heap → Prop} (ha : args.size ≤ 102) (hh : aexec Tryd.prog ac60 (abody [(.slot 10), (.slot 11)] R) ⟨initFr args.toList, []⟩ h) : HCalls Tryd.prog 60 args h R :=
  hcalls_of Tryd.func60 rfl rfl (by kernel_rfl) (by kernel_rfl) ha hh
/-- 61: internal/strconv.lower -/
def ac61 : ACode :=
 (.seq (.ops [
  ⟨(some 2), (.mv (.const (.int .u8 0))), none⟩])
 (.seq (.ops [
   ⟨(some 3), (.mv (.tmp 0)), none⟩, 
   ⟨(some 4), (.bin .or (.tmp 3) (.const (.int .u8 32))), none⟩, 
   ⟨(some 2), (.mv (.tmp 4)), none⟩])
  .ret))
theorem c61 {args : Array Value} {h : Heap} {R : Ending → Heap → Prop} (ha : args.size ≤ 5) (hh : aexec Tryd.prog ac61 (abody [(.slot 2)] R) ⟨initFr args.toList, []⟩ h) : HCalls Tryd.prog 61 args h R :=
  hcalls_of Tryd.func61 rfl rfl (by kernel_rfl) (by kernel_rfl) ha hh
/-- 62: internal/strconv.underscoreOK -/
def ac62 : ACode :=
 (.seq (.ops [
  ⟨(some 2), (.mv (.const (.bool false))), none⟩])
 (.seq (.ops [
   ⟨(some 3), (.mv (.const (.int .i32 94))), none⟩])
  (.seq (.ops [
    ⟨(some 4), (.mv (.const (.int .i64 0))), none⟩])
   (.seq (.seq (.ops [
      ⟨(some 6), (.mv (.tmp 0)), none⟩, 
      ⟨(some 7), (.lenStr (.tmp 6)), none⟩, 
      ⟨(some 8), (.bin .geq (.tmp 7) (.const (.int .i64 1))), none⟩, 
      ⟨(some 9), (.mv (.tmp 8)), none⟩, 
      ⟨(some 10), (.mv (.tmp 0)), (some (9, true))⟩, 
      ⟨(some 11), (.idxStr (.tmp 10) (.const (.int .i64 0))), (some (9, true))⟩, 
      ⟨(some 12), (.bin .eql (.tmp 11) (.const (.int .u8 45))), (some (9, true))⟩, 
      ⟨(some 13), (.mv (.tmp 12)), (some (9, true))⟩, 
      ⟨(some 14), (.mv (.tmp 0)), (some (13, false))⟩, 
      ⟨(some 15), (.idxStr (.tmp 14) (.const (.int .i64 0))), (some (13, false))⟩, 
      ⟨(some 16), (.bin .eql (.tmp 15) (.const (.int .u8 43))), (some (13, false))⟩, 
      ⟨(some 17), (.pick (.tmp 13) (.const (.bool true)) (.tmp 16)), (some (9, true))⟩, 
      ⟨(some 18), (.pick (.tmp 9) (.tmp 17) (.const (.bool false))), none⟩])
     (.cond (.tmp 18)
      (.ops [
       ⟨(some 19), (.mv (.tmp 0)), none⟩, 
       ⟨(some 20), (.sliceStr (.tmp 19) (some (.const (.int .i64 1))) none), none⟩, 
       ⟨(some 0), (.mv (.tmp 20)), none⟩])
      .skip))
    (.seq (.ops [
      ⟨(some 5), (.mv (.const (.bool false))), none⟩])
     (.seq (.seq (.ops [
        ⟨(some 21), (.mv (.tmp 0)), none⟩, 
        ⟨(some 22), (.lenStr (.tmp 21)), none⟩, 
        ⟨(some 23), (.bin .geq (.tmp 22) (.const (.int .i64 2))), none⟩, 
        ⟨(some 24), (.mv (.tmp 23)), none⟩, 
        ⟨(some 25), (.mv (.tmp 0)), (some (24, true))⟩, 
        ⟨(some 26), (.idxStr (.tmp 25) (.const (.int .i64 0))), (some (24, true))⟩, 
        ⟨(some 27), (.bin .eql (.tmp 26) (.const (.int .u8 48))), (some (24, true))⟩, 
        ⟨(some 28), (.pick (.tmp 24) (.tmp 27) (.const (.bool false))), none⟩, 
        ⟨(some 29), (.mv (.tmp 28)), none⟩, 
        ⟨(some 30), (.mv (.tmp 0)), (some (29, true))⟩, 
        ⟨(some 31), (.idxStr (.tmp 30) (.const (.int .i64 1))), (some (29, true))⟩, 
        ⟨(some 32), (.callF 61 [(.tmp 31)]), (some (29, true))⟩, 
        ⟨(some 33), (.bin .eql (.tmp 32) (.const (.int .u8 98))), (some (29, true))⟩, 
        ⟨(some 34), (.mv (.tmp 33)), (some (29, true))⟩, 
        ⟨(some 35), (.mv (.tmp 0)), (some (34, false))⟩, 
        ⟨(some 36), (.idxStr (.tmp 35) (.const (.int .i64 1))), (some (34, false))⟩, 
        ⟨(some 37), (.callF 61 [(.tmp 36)]), (some (34, false))⟩, 
        ⟨(some 38), (.bin .eql (.tmp 37) (.const (.int .u8 111))), (some (34, false))⟩, 
        ⟨(some 39), (.pick (.tmp 34) (.const (.bool true)) (.tmp 38)), (some (29, true))⟩, 
        ⟨(some 40), (.mv (.tmp 39)), (some (29, true))⟩, 
        ⟨(some 41), (.mv (.tmp 0)), (some (40, false))⟩, 
        ⟨(some 42), (.idxStr (.tmp 41) (.const (.int .i64 1))), (some (40, false))⟩, 
        ⟨(some 43), (.callF 61 [(.tmp 42)]), (some (40, false))⟩, 
        ⟨(some 44), (.bin .eql (.tmp 43) (.const (.int .u8 120))), (some (40, false))⟩, 
        ⟨(some 45), (.pick (.tmp 40) (.const (.bool true)) (.tmp 44)), (some (29, true))⟩, 
        ⟨(some 46), (.pick (.tmp 29) (.tmp 45) (.const (.bool false))), none⟩])
       (.cond (.tmp 46)
        (.seq (.ops [
          ⟨(some 4), (.mv (.const (.int .i64 2))), none⟩])
         (.seq (.ops [
           ⟨(some 3), (.mv (.const (.int .i32 48))), none⟩])
          (.ops [
           ⟨(some 47), (.mv (.tmp 0)), none⟩, 
           ⟨(some 48), (.idxStr (.tmp 47) (.const (.int .i64 1))), none⟩, 
           ⟨(some 49), (.callF 61 [(.tmp 48)]), none⟩, 
           ⟨(some 50), (.bin .eql (.tmp 49) (.const (.int .u8 120))), none⟩, 
           ⟨(some 5), (.mv (.tmp 50)), none⟩])))
        .skip))
      (.seq (.block 0
        (.loop
         (.seq (.seq (.ops [
            ⟨(some 51), (.mv (.tmp 4)), none⟩, 
            ⟨(some 52), (.mv (.tmp 0)), none⟩, 
            ⟨(some 53), (.lenStr (.tmp 52)), none⟩, 
            ⟨(some 54), (.bin .lss (.tmp 51) (.tmp 53)), none⟩])
           (.cond (.tmp 54)
            .skip
            (.exit 0)))
          (.seq (.block 1
            (.seq (.seq (.ops [
               ⟨(some 57), (.mv (.tmp 0)), none⟩, 
               ⟨(some 58), (.mv (.tmp 4)), none⟩, 
               ⟨(some 59), (.idxStr (.tmp 57) (.tmp 58)), none⟩, 
               ⟨(some 60), (.bin .leq (.const (.int .u8 48)) (.tmp 59)), none⟩, 
               ⟨(some 61), (.mv (.tmp 60)), none⟩, 
               ⟨(some 62), (.mv (.tmp 0)), (some (61, true))⟩, 
               ⟨(some 63), (.mv (.tmp 4)), (some (61, true))⟩, 
               ⟨(some 64), (.idxStr (.tmp 62) (.tmp 63)), (some (61, true))⟩, 
               ⟨(some 65), (.bin .leq (.tmp 64) (.const (.int .u8 57))), (some (61, true))⟩, 
               ⟨(some 66), (.pick (.tmp 61) (.tmp 65) (.const (.bool false))), none⟩, 
               ⟨(some 67), (.mv (.tmp 66)), none⟩, 
               ⟨(some 68), (.mv (.tmp 5)), (some (67, false))⟩, 
               ⟨(some 69), (.mv (.tmp 68)), (some (67, false))⟩, 
               ⟨(some 70), (.mv (.tmp 0)), (some (69, true))⟩, 
               ⟨(some 71), (.mv (.tmp 4)), (some (69, true))⟩, 
               ⟨(some 72), (.idxStr (.tmp 70) (.tmp 71)), (some (69, true))⟩, 
               ⟨(some 73), (.callF 61 [(.tmp 72)]), (some (69, true))⟩, 
               ⟨(some 74), (.bin .leq (.const (.int .u8 97)) (.tmp 73)), (some (69, true))⟩, 
               ⟨(some 75), (.pick (.tmp 69) (.tmp 74) (.const (.bool false))), (some (67, false))⟩, 
               ⟨(some 76), (.mv (.tmp 75)), (some (67, false))⟩, 
               ⟨(some 77), (.mv (.tmp 0)), (some (76, true))⟩, 
               ⟨(some 78), (.mv (.tmp 4)), (some (76, true))⟩, 
               ⟨(some 79), (.idxStr (.tmp 77) (.tmp 78)), (some (76, true))⟩, 
               ⟨(some 80), (.callF 61 [(.tmp 79)]), (some (76, true))⟩, 
               ⟨(some 81), (.bin .leq (.tmp 80) (.const (.int .u8 102))), (some (76, true))⟩, 
               ⟨(some 82), (.pick (.tmp 76) (.tmp 81) (.const (.bool false))), (some (67, false))⟩, 
               ⟨(some 83), (.pick (.tmp 67) (.const (.bool true)) (.tmp 82)), none⟩])
              (.cond (.tmp 83)
               (.seq (.ops [
                 ⟨(some 3), (.mv (.const (.int .i32 48))), none⟩])
                (.exit 1))
               .skip))
             (.seq (.seq (.ops [
                ⟨(some 84), (.mv (.tmp 0)), none⟩, 
                ⟨(some 85), (.mv (.tmp 4)), none⟩, 
                ⟨(some 86), (.idxStr (.tmp 84) (.tmp 85)), none⟩, 
                ⟨(some 87), (.bin .eql (.tmp 86) (.const (.int .u8 95))), none⟩])
               (.cond (.tmp 87)
                (.seq (.seq (.ops [
                   ⟨(some 88), (.mv (.tmp 3)), none⟩, 
                   ⟨(some 89), (.bin .neq (.tmp 88) (.const (.int .i32 48))), none⟩])
                  (.cond (.tmp 89)
                   (.seq (.ops [
                     ⟨(some 2), (.mv (.const (.bool false))), none⟩])
                    .ret)
                   .skip))
                 (.seq (.ops [
                   ⟨(some 3), (.mv (.const (.int .i32 95))), none⟩])
                  (.exit 1)))
                .skip))
              (.seq (.seq (.ops [
                 ⟨(some 90), (.mv (.tmp 3)), none⟩, 
                 ⟨(some 91), (.bin .eql (.tmp 90) (.const (.int .i32 95))), none⟩])
                (.cond (.tmp 91)
                 (.seq (.ops [
                   ⟨(some 2), (.mv (.const (.bool false))), none⟩])
                  .ret)
                 .skip))
               (.ops [
                ⟨(some 3), (.mv (.const (.int .i32 33))), none⟩])))))
           (.ops [
            ⟨(some 55), (.mv (.tmp 4)), none⟩, 
            ⟨(some 56), (.bin .add (.tmp 55) (.const (.int .i64 1))), none⟩, 
            ⟨(some 4), (.mv (.tmp 56)), none⟩])))))
       (.seq (.ops [
         ⟨(some 92), (.mv (.tmp 3)), none⟩, 
         ⟨(some 93), (.bin .neq (.tmp 92) (.const (.int .i32 95))), none⟩, 
         ⟨(some 2), (.mv (.tmp 93)), none⟩])
        .ret))))))))
theorem c62 {args : Array Value} {h : Heap} {R : Ending → Heap → Prop} (ha : args.size ≤ 94) (hh : aexec Tryd.prog ac62 (abody [(.slot 2)] R) ⟨initFr args.toList, []⟩ h) : HCalls Tryd.prog 62 args h R :=
  hcalls_of Tryd.func62 rfl rfl (by kernel_rfl) (by kernel_rfl) ha hh
/-- 63: internal/stringslite.Clone -/
def ac63 : ACode :=
 (.seq (.ops [
  ⟨(some 2), (.mv (.const (.string ⟨#[]⟩))), none⟩])
 (.seq (.seq (.ops [
    ⟨(some 4), (.mv (.tmp 0)), none⟩, 
    ⟨(some 5), (.lenStr (.tmp 4)), none⟩, 
    ⟨(some 6), (.bin .eql (.tmp 5) (.const (.int .i64 0))), none⟩])
   (.cond (.tmp 6)
    (.seq (.ops [
      ⟨(some 2), (.mv (.const (.string ⟨#[]⟩))), none⟩])
     .ret)
    .skip))
  (.seq (.ops [
    ⟨(some 7), (.mv (.tmp 0)), none⟩, 
    ⟨(some 8), (.lenStr (.tmp 7)), none⟩, 
    ⟨(some 9), (.mkSlice 5 1 1 [(.int .u8 0)] (.tmp 8) (.tmp 8)), none⟩, 
    ⟨(some 3), (.mv (.tmp 9)), none⟩])
   (.seq (.ops [
     ⟨(some 10), (.mv (.tmp 3)), none⟩, 
     ⟨(some 11), (.mv (.tmp 0)), none⟩, 
     ⟨(some 12), (.copy 1 (.tmp 10) (.tmp 11)), none⟩])
    (.seq (.ops [
      ⟨(some 13), (.mv (.tmp 3)), none⟩, 
      ⟨(some 14), (.idxSl 1 (.tmp 13) (.const (.int .i64 0))), none⟩, 
      ⟨(some 15), (.mv (.tmp 3)), none⟩, 
      ⟨(some 16), (.lenSl (.tmp 15)), none⟩, 
      ⟨(some 17), (.ustr 5 (.tmp 14) (.tmp 16)), none⟩, 
      ⟨(some 2), (.mv (.tmp 17)), none⟩])
     .ret)))))
theorem c63 {args : Array Value} {h : Heap} {R : Ending → Heap → Prop} (ha : args.size ≤ 18) (hh : aexec Tryd.prog ac63 (abody [(.slot 2)] R) ⟨initFr args.toList, []⟩ h) : HCalls Tryd.prog 63 args h R :=
  hcalls_of Tryd.func63 rfl rfl (by kernel_rfl) (by kernel_rfl) ha hh
/-- 64: errors.New -/
def ac64 : ACode :=
 (.seq (.ops [
  ⟨(some 2), (.mv (.const .nilIface)), none⟩])
 (.seq (.ops [
   ⟨(some 3), (.mv (.tmp 0)), none⟩, 
   ⟨(some 4), (.build [(.string ⟨#[]⟩)] [(0, 1, (.tmp 3))]), none⟩, 
   ⟨(some 5), (.box 89 (.tmp 4)), none⟩, 
   ⟨(some 6), (.mkIface 87 (.tmp 5)), none⟩, 
   ⟨(some 2), (.mv (.tmp 6)), none⟩])
  .ret))
theorem c64 {args : Array Value} {h : Heap} {R : Ending → Heap → Prop} (ha : args.size ≤ 7) (hh : aexec Tryd.prog ac64 (abody [(.slot 2)] R) ⟨initFr args.toList, []⟩ h) : HCalls Tryd.prog 64 args h R :=
  hcalls_of Tryd.func64 rfl rfl (by kernel_rfl) (by kernel_rfl) ha hh
/-- 65: strconv.Itoa -/
def ac65 : ACode :=
 (.seq (.ops [
  ⟨(some 2), (.mv (.const (.string ⟨#[]⟩))), none⟩])
 (.seq (.ops [
   ⟨(some 3), (.mv (.tmp 0)), none⟩, 
   ⟨(some 4), (.callF 71 [(.tmp 3)]), none⟩, 
   ⟨(some 2), (.mv (.tmp 4)), none⟩])
  .ret))
theorem c65 {args : Array Value} {h : Heap} {R : Ending → Heap → Prop} (ha : args.size ≤ 5) (hh : aexec Tryd.prog ac65 (abody [(.slot 2)] R) ⟨initFr args.toList, []⟩ h) : HCalls Tryd.prog 65 args h R :=
  hcalls_of Tryd.func65 rfl rfl (by kernel_rfl) (by kernel_rfl) ha hh
/-- 66: internal/strconv.log10Pow2 -/
def ac66 : ACode :=
 (.seq (.ops [
  ⟨(some 2), (.mv (.const (.int .i64 0))), none⟩])
 (.seq (.ops [
   ⟨(some 3), (.mv (.tmp 0)), none⟩, 
   ⟨(some 4), (.bin .mul (.tmp 3) (.const (.int .i64 78913))), none⟩, 
   ⟨(some 5), (.bin .shr (.tmp 4) (.const (.int .u64 18))), none⟩, 
   ⟨(some 2), (.mv (.tmp 5)), none⟩])
  .ret))
theorem c66 {args : Array Value} {h : Heap} {R : Ending → Heap → Prop} (ha : args.size ≤ 6) (hh : aexec Tryd.prog ac66 (abody [(.slot 2)] R) ⟨initFr args.toList, []⟩ h) : HCalls Tryd.prog 66 args h R :=
  hcalls_of Tryd.func66 rfl rfl (by kernel_rfl) (by kernel_rfl) ha hh
/-- 67: math/bits.Len64 -/
def ac67 : ACode :=
 (.seq (.ops [
  ⟨(some 2), (.mv (.const (.int .i64 0))), none⟩])
 (.seq (.seq (.ops [
    ⟨(some 3), (.mv (.tmp 0)), none⟩, 
    ⟨(some 4), (.bin .geq (.tmp 3) (.const (.int .u64 4294967296))), none⟩])
   (.cond (.tmp 4)
    (.seq (.ops [
      ⟨(some 5), (.mv (.tmp 0)), none⟩, 
      ⟨(some 6), (.bin .shr (.tmp 5) (.const (.int .u64 32))), none⟩, 
      ⟨(some 0), (.mv (.tmp 6)), none⟩])
     (.ops [
      ⟨(some 2), (.mv (.const (.int .i64 32))), none⟩]))
    .skip))
  (.seq (.seq (.ops [
     ⟨(some 7), (.mv (.tmp 0)), none⟩, 
     ⟨(some 8), (.bin .geq (.tmp 7) (.const (.int .u64 65536))), none⟩])
    (.cond (.tmp 8)
     (.seq (.ops [
       ⟨(some 9), (.mv (.tmp 0)), none⟩, 
       ⟨(some 10), (.bin .shr (.tmp 9) (.const (.int .u64 16))), none⟩, 
       ⟨(some 0), (.mv (.tmp 10)), none⟩])
      (.ops [
       ⟨(some 11), (.mv (.tmp 2)), none⟩, 
       ⟨(some 12), (.bin .add (.tmp 11) (.const (.int .i64 16))), none⟩, 
       ⟨(some 2), (.mv (.tmp 12)), none⟩]))
     .skip))
   (.seq (.seq (.ops [
      ⟨(some 13), (.mv (.tmp 0)), none⟩, 
      ⟨(some 14), (.bin .geq (.tmp 13) (.const (.int .u64 256))), none⟩])
     (.cond (.tmp 14)
      (.seq (.ops [
        ⟨(some 15), (.mv (.tmp 0)), none⟩, 
        ⟨(some 16), (.bin .shr (.tmp 15) (.const (.int .u64 8))), none⟩, 
        ⟨(some 0), (.mv (.tmp 16)), none⟩])
       (.ops [
        ⟨(some 17), (.mv (.tmp 2)), none⟩, 
        ⟨(some 18), (.bin .add (.tmp 17) (.const (.int .i64 8))), none⟩, 
        ⟨(some 2), (.mv (.tmp 18)), none⟩]))
      .skip))
    (.seq (.ops [
      ⟨(some 19), (.mv (.tmp 2)), none⟩, 
      ⟨(some 20), (.mv (.tmp 0)), none⟩, 
      ⟨(some 21), (.convInt .u8 (.tmp 20)), none⟩, 
      ⟨(some 22), (.idxStr (.const (.string ⟨#[0, 1, 2, 2, 3, 3, 3, 3, 4, 4, 4, 4, 4, 4, 4, 4, 5, 5, 5, 5, 5, 5, 5, 5, 5, 5, 5, 5, 5, 5, 5, 5, 6, 6, 6, 6, 6, 6, 6, 6, 6, 6, 6, 6, 6, 6, 6, 6, 6, 6, 6, 6, 6, 6, 6, 6, 6, 6, 6, 6, 6, 6, 6, 6, 7, 7, 7, 7, 7, 7, 7, 7, 7, 7, 7, 7, 7, 7, 7, 7, 7, 7, 7, 7, 7, 7, 7, 7, 7, 7, 7, 7, 7, 7, 7, 7, 7, 7, 7, 7, 7, 7, 7, 7, 7, 7, 7, 7, 7, 7, 7, 7, 7, 7, 7, 7, 7, 7, 7, 7, 7, 7, 7, 7, 7, 7, 7, 7, 8, 8, 8, 8, 8, 8, 8, 8, 8, 8, 8, 8, 8, 8, 8, 8, 8, 8, 8, 8, 8, 8, 8, 8, 8, 8, 8, 8, 8, 8, 8, 8, 8, 8, 8, 8, 8, 8, 8, 8, 8, 8, 8, 8, 8, 8, 8, 8, 8, 8, 8, 8, 8, 8, 8, 8, 8, 8, 8, 8, 8, 8, 8, 8, 8, 8, 8, 8, 8, 8, 8, 8, 8, 8, 8, 8, 8, 8, 8, 8, 8, 8, 8, 8, 8, 8, 8, 8, 8, 8, 8, 8, 8, 8, 8, 8, 8, 8, 8, 8, 8, 8, 8, 8, 8, 8, 8, 8, 8, 8, 8, 8, 8, 8, 8, 8, 8, 8, 8, 8, 8, 8, 8, 8, 8, 8, 8, 8]⟩)) (.tmp 21)), none⟩, 
      ⟨(some 23), (.convInt .i64 (.tmp 22)), none⟩, 
      ⟨(some 24), (.bin .add (.tmp 19) (.tmp 23)), none⟩, 
      ⟨(some 2), (.mv (.tmp 24)), none⟩])
     .ret)))))
theorem c67 {args : Array Value} {h : Heap} {R : Ending → Heap → Prop} (ha : args.size ≤ 25) (hh : aexec Tryd.prog ac67 (abody [(.slot 2)] R) ⟨initFr args.toList, []⟩ h) : HCalls Tryd.prog 67 args h R :=
  hcalls_of Tryd.func67 rfl rfl (by kernel_rfl) (by kernel_rfl) ha hh
/-- 68: internal/strconv.bool2[int] -/
def ac68 : ACode :=
 (.seq (.ops [
  ⟨(some 2), (.mv (.const (.int .i64 0))), none⟩])
 (.seq (.seq (.ops [
    ⟨(some 3), (.mv (.tmp 0)), none⟩])
   (.cond (.tmp 3)
    (.seq (.ops [
      ⟨(some 2), (.mv (.const (.int .i64 1))), none⟩])
     .ret)
    .skip))
  (.seq (.ops [
    ⟨(some 2), (.mv (.const (.int .i64 0))), none⟩])
   .ret)))
theorem c68 {args : Array Value} {h : Heap} {R : Ending → Heap → Prop} (ha : args.size ≤ 4) (hh : aexec Tryd.prog ac68 (abody [(.slot 2)] R) ⟨initFr args.toList, []⟩ h) : HCalls Tryd.prog 68 args h R :=
  hcalls_of Tryd.func68 rfl rfl (by kernel_rfl) (by kernel_rfl) ha hh
/-- 69: internal/strconv.isPowerOfTwo -/
def ac69 : ACode :=
 (.seq (.ops [
  ⟨(some 2), (.mv (.const (.bool false))), none⟩])
 (.seq (.ops [
   ⟨(some 3), (.mv (.tmp 0)), none⟩, 
   ⟨(some 4), (.mv (.tmp 0)), none⟩, 
   ⟨(some 5), (.bin .sub (.tmp 4) (.const (.int .i64 1))), none⟩, 
   ⟨(some 6), (.bin .and (.tmp 3) (.tmp 5)), none⟩, 
   ⟨(some 7), (.bin .eql (.tmp 6) (.const (.int .i64 0))), none⟩, 
   ⟨(some 2), (.mv (.tmp 7)), none⟩])
  .ret))
theorem c69 {args : Array Value} {h : Heap} {R : Ending → Heap → Prop} (ha : args.size ≤ 8) (hh : aexec Tryd.prog ac69 (abody [(.slot 2)] R) ⟨initFr args.toList, []⟩ h) : HCalls Tryd.prog 69 args h R :=
  hcalls_of Tryd.func69 rfl rfl (by kernel_rfl) (by kernel_rfl) ha hh
/-- 70: math/bits.TrailingZeros -/
def ac70 : ACode :=
 (.seq (.ops [
  ⟨(some 2), (.mv (.const (.int .i64 0))), none⟩])
 (.seq (.cond (.const (.bool false))
   (.seq (.ops [
     ⟨(some 3), (.mv (.tmp 0)), none⟩, 
     ⟨(some 4), (.convInt .u32 (.tmp 3)), none⟩, 
     ⟨(some 5), (.callF 72 [(.tmp 4)]), none⟩, 
     ⟨(some 2), (.mv (.tmp 5)), none⟩])
    .ret)
   .skip)
  (.seq (.ops [
    ⟨(some 6), (.mv (.tmp 0)), none⟩, 
    ⟨(some 7), (.callF 73 [(.tmp 6)]), none⟩, 
    ⟨(some 2), (.mv (.tmp 7)), none⟩])
   .ret)))
theorem c70 {args : Array Value} {h : Heap} {R : Ending → Heap → Prop} (ha : args.size ≤ 8) (hh : aexec Tryd.prog ac70 (abody [(.slot 2)] R) ⟨initFr args.toList, []⟩ h) : HCalls Tryd.prog 70 args h R :=
  hcalls_of Tryd.func70 rfl rfl (by kernel_rfl) (by kernel_rfl) ha hh
/-- 71: internal/strconv.Itoa -/
def ac71 : ACode :=
 (.seq (.ops [
  ⟨(some 2), (.mv (.const (.string ⟨#[]⟩))), none⟩])
 (.seq (.ops [
   ⟨(some 3), (.mv (.tmp 0)), none⟩, 
   ⟨(some 4), (.callF 50 [(.tmp 3), (.const (.int .i64 10))]), none⟩, 
   ⟨(some 2), (.mv (.tmp 4)), none⟩])
  .ret))
theorem c71 {args : Array Value} {h : Heap} {R : Ending → Heap → Prop} (ha : args.size ≤ 5) (hh : aexec Tryd.prog ac71 (abody [(.slot 2)] R) ⟨initFr args.toList, []⟩ h) : HCalls Tryd.prog 71 args h R :=
  hcalls_of Tryd.func71 rfl rfl (by kernel_rfl) (by kernel_rfl) ha hh
/-- 72: math/bits.TrailingZeros32 -/
def ac72 : ACode :=
 (.seq (.ops [
  ⟨(some 2), (.mv (.const (.int .i64 0))), none⟩])
 (.seq (.seq (.ops [
    ⟨(some 3), (.mv (.tmp 0)), none⟩, 
    ⟨(some 4), (.bin .eql (.tmp 3) (.const (.int .u32 0))), none⟩])
   (.cond (.tmp 4)
    (.seq (.ops [
      ⟨(some 2), (.mv (.const (.int .i64 32))), none⟩])
     .ret)
    .skip))
  (.seq (.ops [
    ⟨(some 5), (.mv (.tmp 0)), none⟩, 
    ⟨(some 6), (.mv (.tmp 0)), none⟩, 
    ⟨(some 7), (.un .neg (.tmp 6)), none⟩, 
    ⟨(some 8), (.bin .and (.tmp 5) (.tmp 7)), none⟩, 
    ⟨(some 9), (.bin .mul (.tmp 8) (.const (.int .u32 125613361))), none⟩, 
    ⟨(some 10), (.bin .shr (.tmp 9) (.const (.int .u64 27))), none⟩, 
    ⟨(some 11), (.idxArrP 32 1 (.global 3) (.tmp 10)), none⟩, 
    ⟨(some 12), (.load1 (.tmp 11)), none⟩, 
    ⟨(some 13), (.convInt .i64 (.tmp 12)), none⟩, 
    ⟨(some 2), (.mv (.tmp 13)), none⟩])
   .ret)))
theorem c72 {args : Array Value} {h : Heap} {R : Ending → Heap → Prop} (ha : args.size ≤ 14) (hh : aexec Tryd.prog ac72 (abody [(.slot 2)] R) ⟨initFr args.toList, []⟩ h) : HCalls Tryd.prog 72 args h R :=
  hcalls_of Tryd.func72 rfl rfl (by kernel_rfl) (by kernel_rfl) ha hh
/-- 73: math/bits.TrailingZeros64 -/
def ac73 : ACode :=
 (.seq (.ops [
  ⟨(some 2), (.mv (.const (.int .i64 0))), none⟩])
 (.seq (.seq (.ops [
    ⟨(some 3), (.mv (.tmp 0)), none⟩, 
    ⟨(some 4), (.bin .eql (.tmp 3) (.const (.int .u64 0))), none⟩])
   (.cond (.tmp 4)
    (.seq (.ops [
      ⟨(some 2), (.mv (.const (.int .i64 64))), none⟩])
     .ret)
    .skip))
  (.seq (.ops [
    ⟨(some 5), (.mv (.tmp 0)), none⟩, 
    ⟨(some 6), (.mv (.tmp 0)), none⟩, 
    ⟨(some 7), (.un .neg (.tmp 6)), none⟩, 
    ⟨(some 8), (.bin .and (.tmp 5) (.tmp 7)), none⟩, 
    ⟨(some 9), (.bin .mul (.tmp 8) (.const (.int .u64 285870213051353865))), none⟩, 
    ⟨(some 10), (.bin .shr (.tmp 9) (.const (.int .u64 58))), none⟩, 
    ⟨(some 11), (.idxArrP 64 1 (.global 4) (.tmp 10)), none⟩, 
    ⟨(some 12), (.load1 (.tmp 11)), none⟩, 
    ⟨(some 13), (.convInt .i64 (.tmp 12)), none⟩, 
    ⟨(some 2), (.mv (.tmp 13)), none⟩])
   .ret)))
theorem c73 {args : Array Value} {h : Heap} {R : Ending → Heap → Prop} (ha : args.size ≤ 14) (hh : aexec Tryd.prog ac73 (abody [(.slot 2)] R) ⟨initFr args.toList, []⟩ h) : HCalls Tryd.prog 73 args h R :=
  hcalls_of Tryd.func73 rfl rfl (by kernel_rfl) (by kernel_rfl) ha hh
/-- 100: gosem.cut.vars -/
def ac100 : ACode :=
 (.seq (.ops [
  ⟨(some 0), (.build [(.int .u8 0), (.int .u8 0), (.int .u8 0), (.int .u8 0), (.int .u8 0), (.int .u8 0), (.int .u8 0), (.int .u8 0), (.int .u8 0), (.int .u8 0), (.int .u8 0), (.int .u8 0), (.int .u8 0), (.int .u8 0), (.int .u8 0), (.int .u8 0), (.int .u8 0), (.int .u8 0), (.int .u8 0), (.int .u8 0), (.int .u8 0), (.int .u8 0), (.int .u8 0), (.int .u8 0), (.int .u8 0), (.int .u8 0), (.int .u8 0), (.int .u8 0), (.int .u8 0), (.int .u8 0), (.int .u8 0), (.int .u8 0)] [(0, 1, (.const (.int .u8 0))), (1, 1, (.const (.int .u8 1))), (2, 1, (.const (.int .u8 28))), (3, 1, (.const (.int .u8 2))), (4, 1, (.const (.int .u8 29))), (5, 1, (.const (.int .u8 14))), (6, 1, (.const (.int .u8 24))), (7, 1, (.const (.int .u8 3))), (8, 1, (.const (.int .u8 30))), (9, 1, (.const (.int .u8 22))), (10, 1, (.const (.int .u8 20))), (11, 1, (.const (.int .u8 15))), (12, 1, (.const (.int .u8 25))), (13, 1, (.const (.int .u8 17))), (14, 1, (.const (.int .u8 4))), (15, 1, (.const (.int .u8 8))), (16, 1, (.const (.int .u8 31))), (17, 1, (.const (.int .u8 27))), (18, 1, (.const (.int .u8 13))), (19, 1, (.const (.int .u8 23))), (20, 1, (.const (.int .u8 21))), (21, 1, (.const (.int .u8 19))), (22, 1, (.const (.int .u8 16))), (23, 1, (.const (.int .u8 7))), (24, 1, (.const (.int .u8 26))), (25, 1, (.const (.int .u8 12))), (26, 1, (.const (.int .u8 18))), (27, 1, (.const (.int .u8 6))), (28, 1, (.const (.int .u8 11))), (29, 1, (.const (.int .u8 5))), (30, 1, (.const (.int .u8 10))), (31, 1, (.const (.int .u8 9)))]), none⟩, 
  ⟨none, (.storeN 32 (.global 3) (.tmp 0)), none⟩])
 (.seq (.ops [
   ⟨(some 1), (.build [(.int .u8 0), (.int .u8 0), (.int .u8 0), (.int .u8 0), (.int .u8 0), (.int .u8 0), (.int .u8 0), (.int .u8 0), (.int .u8 0), (.int .u8 0), (.int .u8 0), (.int .u8 0), (.int .u8 0), (.int .u8 0), (.int .u8 0), (.int .u8 0), (.int .u8 0), (.int .u8 0), (.int .u8 0), (.int .u8 0), (.int .u8 0), (.int .u8 0), (.int .u8 0), (.int .u8 0), (.int .u8 0), (.int .u8 0), (.int .u8 0), (.int .u8 0), (.int .u8 0), (.int .u8 0), (.int .u8 0), (.int .u8 0), (.int .u8 0), (.int .u8 0), (.int .u8 0), (.int .u8 0), (.int .u8 0), (.int .u8 0), (.int .u8 0), (.int .u8 0), (.int .u8 0), (.int .u8 0), (.int .u8 0), (.int .u8 0), (.int .u8 0), (.int .u8 0), (.int .u8 0), (.int .u8 0), (.int .u8 0), (.int .u8 0), (.int .u8 0), (.int .u8 0), (.int .u8 0), (.int .u8 0), (.int .u8 0), (.int .u8 0), (.int .u8 0), (.int .u8 0), (.int .u8 0), (.int .u8 0), (.int .u8 0), (.int .u8 0), (.int .u8 0), (.int .u8 0)] [(0, 1, (.const (.int .u8 0))), (1, 1, (.const (.int .u8 1))), (2, 1, (.const (.int .u8 56))), (3, 1, (.const (.int .u8 2))), (4, 1, (.const (.int .u8 57))), (5, 1, (.const (.int .u8 49))), (6, 1, (.const (.int .u8 28))), (7, 1, (.const (.int .u8 3))), (8, 1, (.const (.int .u8 61))), (9, 1, (.const (.int .u8 58))), (10, 1, (.const (.int .u8 42))), (11, 1, (.const (.int .u8 50))), (12, 1, (.const (.int .u8 38))), (13, 1, (.const (.int .u8 29))), (14, 1, (.const (.int .u8 17))), (15, 1, (.const (.int .u8 4))), (16, 1, (.const (.int .u8 62))), (17, 1, (.const (.int .u8 47))), (18, 1, (.const (.int .u8 59))), (19, 1, (.const (.int .u8 36))), (20, 1, (.const (.int .u8 45))), (21, 1, (.const (.int .u8 43))), (22, 1, (.const (.int .u8 51))), (23, 1, (.const (.int .u8 22))), (24, 1, (.const (.int .u8 53))), (25, 1, (.const (.int .u8 39))), (26, 1, (.const (.int .u8 33))), (27, 1, (.const (.int .u8 30))), (28, 1, (.const (.int .u8 24))), (29, 1, (.const (.int .u8 18))), (30, 1, (.const (.int .u8 12))), (31, 1, (.const (.int .u8 5))), (32, 1, (.const (.int .u8 63))), (33, 1, (.const (.int .u8 55))), (34, 1, (.const (.int .u8 48))), (35, 1, (.const (.int .u8 27))), (36, 1, (.const (.int .u8 60))), (37, 1, (.const (.int .u8 41))), (38, 1, (.const (.int .u8 37))), (39, 1, (.const (.int .u8 16))), (40, 1, (.const (.int .u8 46))), (41, 1, (.const (.int .u8 35))), (42, 1, (.const (.int .u8 44))), (43, 1, (.const (.int .u8 21))), (44, 1, (.const (.int .u8 52))), (45, 1, (.const (.int .u8 32))), (46, 1, (.const (.int .u8 23))), (47, 1, (.const (.int .u8 11))), (48, 1, (.const (.int .u8 54))), (49, 1, (.const (.int .u8 26))), (50, 1, (.const (.int .u8 40))), (51, 1, (.const (.int .u8 15))), (52, 1, (.const (.int .u8 34))), (53, 1, (.const (.int .u8 20))), (54, 1, (.const (.int .u8 31))), (55, 1, (.const (.int .u8 10))), (56, 1, (.const (.int .u8 25))), (57, 1, (.const (.int .u8 14))), (58, 1, (.const (.int .u8 19))), (59, 1, (.const (.int .u8 9))), (60, 1, (.const (.int .u8 13))), (61, 1, (.const (.int .u8 8))), (62, 1, (.const (.int .u8 7))), (63, 1, (.const (.int .u8 6)))]), none⟩, 
   ⟨none, (.storeN 64 (.global 4) (.tmp 1)), none⟩])
  (.seq (.ops [
    ⟨(some 2), (.build [(.int .u64 0), (.int .u64 0), (.int .u64 0), (.int .u64 0), (.int .u64 0), (.int .u64 0), (.int .u64 0), (.int .u64 0), (.int .u64 0), (.int .u64 0), (.int .u64 0), (.int .u64 0), (.int .u64 0), (.int .u64 0), (.int .u64 0), (.int .u64 0), (.int .u64 0), (.int .u64 0), (.int .u64 0), (.int .u64 0)] [(0, 1, (.const (.int .u64 1))), (1, 1, (.const (.int .u64 10))), (2, 1, (.const (.int .u64 100))), (3, 1, (.const (.int .u64 1000))), (4, 1, (.const (.int .u64 10000))), (5, 1, (.const (.int .u64 100000))), (6, 1, (.const (.int .u64 1000000))), (7, 1, (.const (.int .u64 10000000))), (8, 1, (.const (.int .u64 100000000))), (9, 1, (.const (.int .u64 1000000000))), (10, 1, (.const (.int .u64 10000000000))), (11, 1, (.const (.int .u64 100000000000))), (12, 1, (.const (.int .u64 1000000000000))), (13, 1, (.const (.int .u64 10000000000000))), (14, 1, (.const (.int .u64 100000000000000))), (15, 1, (.const (.int .u64 1000000000000000))), (16, 1, (.const (.int .u64 10000000000000000))), (17, 1, (.const (.int .u64 100000000000000000))), (18, 1, (.const (.int .u64 1000000000000000000))), (19, 1, (.const (.int .u64 10000000000000000000)))]), none⟩, 
    ⟨none, (.storeN 20 (.global 2) (.tmp 2)), none⟩])
   (.seq (.ops [
     ⟨(some 3), (.callF 64 [(.const (.string ⟨#[118, 97, 108, 117, 101, 32, 111, 117, 116, 32, 111, 102, 32, 114, 97, 110, 103, 101]⟩))]), none⟩, 
     ⟨none, (.store1 (.global 1) (.tmp 3)), none⟩])
    (.ops [
     ⟨(some 4), (.callF 64 [(.const (.string ⟨#[105, 110, 118, 97, 108, 105, 100, 32, 115, 121, 110, 116, 97, 120]⟩))]), none⟩, 
     ⟨none, (.store1 (.global 0) (.tmp 4)), none⟩])))))
theorem c100 {args : Array Value} {h : Heap} {R : Ending → Heap → Prop} (ha : args.size ≤ 5) (hh : aexec Tryd.prog ac100 (abody [] R) ⟨initFr args.toList, []⟩ h) : HCalls Tryd.prog 100 args h R :=
  hcalls_of Tryd.func100 rfl rfl (by kernel_rfl) (by kernel_rfl) ha hh
end Go.Proofs.YtnanabjbdnbccaaDoor.Hc
