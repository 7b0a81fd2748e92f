import Derived.Test.YtlogpojkkbcpjaaProg
import Derived.Test.YtlogpojkkbcpjaaHM
import Derived.Test.YtlogpojkkbcpjaaHP
import Derived.Test.YtlogpojkkbcpjaaHR
import Derived.KernelRfl
set_option linter.unusedVariables false
namespace Go.Proofs.Ytlogpojkkbcpjaa.Hc
open Go Go.H Go.Proofs
set_option maxRecDepth 100000
/-- 62: credenza/credenzaref07.loop -/
def ac62 : ACode :=
 (.seq (.ops [
  ⟨(some 1), (.box 26 (.tmp 0)), none⟩, 
  ⟨(some 2), (.mv (.const (.bool false))), none⟩])
 (.seq (.ops [
   ⟨(some 4), (.fieldAddr 5 (.tmp 1)), none⟩, 
   ⟨(some 5), (.load1 (.tmp 4)), none⟩, 
   ⟨(some 3), (.mv (.tmp 5)), none⟩])
  (.seq (.seq (.ops [
     ⟨(some 6), (.fieldAddr 0 (.tmp 1)), none⟩, 
     ⟨(some 7), (.load1 (.tmp 6)), none⟩])
    (.block 0
     (.seq (.ops [
       ⟨(some 9), (.bin .eql (.tmp 7) (.const (.int .i64 27))), none⟩, 
       ⟨(some 8), (.mv (.tmp 9)), none⟩])
      (.cond (.tmp 8)
       (.seq (.ops [
         ⟨(some 10), (.mv (.tmp 3)), none⟩, 
         ⟨(some 11), (.lenSl (.tmp 10)), none⟩, 
         ⟨(some 12), (.bin .eql (.tmp 11) (.const (.int .i64 2))), none⟩, 
         ⟨(some 13), (.mv (.tmp 12)), none⟩, 
         ⟨(some 14), (.mv (.tmp 3)), (some (13, true))⟩, 
         ⟨(some 15), (.idxSl 6 (.tmp 14) (.const (.int .i64 0))), (some (13, true))⟩, 
         ⟨(some 16), (.loadN 6 (.tmp 15)), (some (13, true))⟩, 
         ⟨(some 17), (.callF 60 [(.tmp 16)]), (some (13, true))⟩, 
         ⟨(some 18), (.pick (.tmp 13) (.tmp 17) (.const (.bool false))), none⟩, 
         ⟨(some 19), (.mv (.tmp 18)), none⟩, 
         ⟨(some 20), (.mv (.tmp 3)), (some (19, true))⟩, 
         ⟨(some 21), (.idxSl 6 (.tmp 20) (.const (.int .i64 1))), (some (19, true))⟩, 
         ⟨(some 22), (.loadN 6 (.tmp 21)), (some (19, true))⟩, 
         ⟨(some 23), (.callF 61 [(.tmp 22)]), (some (19, true))⟩, 
         ⟨(some 24), (.pick (.tmp 19) (.tmp 23) (.const (.bool false))), none⟩, 
         ⟨(some 2), (.mv (.tmp 24)), none⟩])
        .ret)
       (.seq (.ops [
         ⟨(some 26), (.bin .eql (.tmp 7) (.const (.int .i64 28))), none⟩, 
         ⟨(some 25), (.mv (.tmp 26)), none⟩])
        (.cond (.tmp 25)
         (.seq (.ops [
           ⟨(some 27), (.mv (.tmp 3)), none⟩, 
           ⟨(some 28), (.lenSl (.tmp 27)), none⟩, 
           ⟨(some 29), (.bin .eql (.tmp 28) (.const (.int .i64 2))), none⟩, 
           ⟨(some 30), (.mv (.tmp 29)), none⟩, 
           ⟨(some 31), (.mv (.tmp 3)), (some (30, true))⟩, 
           ⟨(some 32), (.idxSl 6 (.tmp 31) (.const (.int .i64 0))), (some (30, true))⟩, 
           ⟨(some 33), (.loadN 6 (.tmp 32)), (some (30, true))⟩, 
           ⟨(some 34), (.callF 61 [(.tmp 33)]), (some (30, true))⟩, 
           ⟨(some 35), (.pick (.tmp 30) (.tmp 34) (.const (.bool false))), none⟩, 
           ⟨(some 36), (.mv (.tmp 35)), none⟩, 
           ⟨(some 37), (.mv (.tmp 3)), (some (36, true))⟩, 
           ⟨(some 38), (.idxSl 6 (.tmp 37) (.const (.int .i64 1))), (some (36, true))⟩, 
           ⟨(some 39), (.loadN 6 (.tmp 38)), (some (36, true))⟩, 
           ⟨(some 40), (.callF 60 [(.tmp 39)]), (some (36, true))⟩, 
           ⟨(some 41), (.pick (.tmp 36) (.tmp 40) (.const (.bool false))), none⟩, 
           ⟨(some 2), (.mv (.tmp 41)), none⟩])
          .ret)
         (.seq (.ops [
           ⟨(some 43), (.bin .eql (.tmp 7) (.const (.int .i64 29))), none⟩, 
           ⟨(some 42), (.mv (.tmp 43)), none⟩])
          (.cond (.tmp 42)
           (.seq (.ops [
             ⟨(some 44), (.mv (.tmp 3)), none⟩, 
             ⟨(some 45), (.lenSl (.tmp 44)), none⟩, 
             ⟨(some 46), (.bin .eql (.tmp 45) (.const (.int .i64 4))), none⟩, 
             ⟨(some 47), (.mv (.tmp 46)), none⟩, 
             ⟨(some 48), (.mv (.tmp 3)), (some (47, true))⟩, 
             ⟨(some 49), (.idxSl 6 (.tmp 48) (.const (.int .i64 0))), (some (47, true))⟩, 
             ⟨(some 50), (.loadN 6 (.tmp 49)), (some (47, true))⟩, 
             ⟨(some 51), (.callF 59 [(.tmp 50)]), (some (47, true))⟩, 
             ⟨(some 52), (.mv (.tmp 51)), (some (47, true))⟩, 
             ⟨(some 53), (.mv (.tmp 3)), (some (52, false))⟩, 
             ⟨(some 54), (.idxSl 6 (.tmp 53) (.const (.int .i64 0))), (some (52, false))⟩, 
             ⟨(some 55), (.loadN 6 (.tmp 54)), (some (52, false))⟩, 
             ⟨(some 56), (.callF 60 [(.tmp 55)]), (some (52, false))⟩, 
             ⟨(some 57), (.pick (.tmp 52) (.const (.bool true)) (.tmp 56)), (some (47, true))⟩, 
             ⟨(some 58), (.mv (.tmp 57)), (some (47, true))⟩, 
             ⟨(some 59), (.mv (.tmp 3)), (some (58, false))⟩, 
             ⟨(some 60), (.idxSl 6 (.tmp 59) (.const (.int .i64 0))), (some (58, false))⟩, 
             ⟨(some 61), (.loadN 6 (.tmp 60)), (some (58, false))⟩, 
             ⟨(some 62), (.callF 64 [(.tmp 61)]), (some (58, false))⟩, 
             ⟨(some 63), (.pick (.tmp 58) (.const (.bool true)) (.tmp 62)), (some (47, true))⟩, 
             ⟨(some 64), (.pick (.tmp 47) (.tmp 63) (.const (.bool false))), none⟩, 
             ⟨(some 65), (.mv (.tmp 64)), none⟩, 
             ⟨(some 66), (.mv (.tmp 3)), (some (65, true))⟩, 
             ⟨(some 67), (.idxSl 6 (.tmp 66) (.const (.int .i64 1))), (some (65, true))⟩, 
             ⟨(some 68), (.loadN 6 (.tmp 67)), (some (65, true))⟩, 
             ⟨(some 69), (.callF 60 [(.tmp 68)]), (some (65, true))⟩, 
             ⟨(some 70), (.mv (.tmp 69)), (some (65, true))⟩, 
             ⟨(some 71), (.mv (.tmp 3)), (some (70, false))⟩, 
             ⟨(some 72), (.idxSl 6 (.tmp 71) (.const (.int .i64 1))), (some (70, false))⟩, 
             ⟨(some 73), (.loadN 6 (.tmp 72)), (some (70, false))⟩, 
             ⟨(some 74), (.callF 64 [(.tmp 73)]), (some (70, false))⟩, 
             ⟨(some 75), (.pick (.tmp 70) (.const (.bool true)) (.tmp 74)), (some (65, true))⟩, 
             ⟨(some 76), (.pick (.tmp 65) (.tmp 75) (.const (.bool false))), none⟩, 
             ⟨(some 77), (.mv (.tmp 76)), none⟩, 
             ⟨(some 78), (.mv (.tmp 3)), (some (77, true))⟩, 
             ⟨(some 79), (.idxSl 6 (.tmp 78) (.const (.int .i64 2))), (some (77, true))⟩, 
             ⟨(some 80), (.loadN 6 (.tmp 79)), (some (77, true))⟩, 
             ⟨(some 81), (.callF 60 [(.tmp 80)]), (some (77, true))⟩, 
             ⟨(some 82), (.mv (.tmp 81)), (some (77, true))⟩, 
             ⟨(some 83), (.mv (.tmp 3)), (some (82, false))⟩, 
             ⟨(some 84), (.idxSl 6 (.tmp 83) (.const (.int .i64 2))), (some (82, false))⟩, 
             ⟨(some 85), (.loadN 6 (.tmp 84)), (some (82, false))⟩, 
             ⟨(some 86), (.callF 64 [(.tmp 85)]), (some (82, false))⟩, 
             ⟨(some 87), (.pick (.tmp 82) (.const (.bool true)) (.tmp 86)), (some (77, true))⟩, 
             ⟨(some 88), (.pick (.tmp 77) (.tmp 87) (.const (.bool false))), none⟩, 
             ⟨(some 89), (.mv (.tmp 88)), none⟩, 
             ⟨(some 90), (.mv (.tmp 3)), (some (89, true))⟩, 
             ⟨(some 91), (.idxSl 6 (.tmp 90) (.const (.int .i64 3))), (some (89, true))⟩, 
             ⟨(some 92), (.loadN 6 (.tmp 91)), (some (89, true))⟩, 
             ⟨(some 93), (.callF 61 [(.tmp 92)]), (some (89, true))⟩, 
             ⟨(some 94), (.pick (.tmp 89) (.tmp 93) (.const (.bool false))), none⟩, 
             ⟨(some 2), (.mv (.tmp 94)), none⟩])
            .ret)
           .skip))))))))
   (.seq (.seq (.ops [
      ⟨(some 95), (.mv (.tmp 3)), none⟩, 
      ⟨(some 96), (.lenSl (.tmp 95)), none⟩, 
      ⟨(some 97), (.bin .neq (.tmp 96) (.const (.int .i64 3))), none⟩, 
      ⟨(some 98), (.mv (.tmp 97)), none⟩, 
      ⟨(some 99), (.mv (.tmp 3)), (some (98, false))⟩, 
      ⟨(some 100), (.idxSl 6 (.tmp 99) (.const (.int .i64 1))), (some (98, false))⟩, 
      ⟨(some 101), (.loadN 6 (.tmp 100)), (some (98, false))⟩, 
      ⟨(some 102), (.callF 60 [(.tmp 101)]), (some (98, false))⟩, 
      ⟨(some 103), (.un .not (.tmp 102)), (some (98, false))⟩, 
      ⟨(some 104), (.pick (.tmp 98) (.const (.bool true)) (.tmp 103)), none⟩, 
      ⟨(some 105), (.mv (.tmp 104)), none⟩, 
      ⟨(some 106), (.mv (.tmp 3)), (some (105, false))⟩, 
      ⟨(some 107), (.idxSl 6 (.tmp 106) (.const (.int .i64 2))), (some (105, false))⟩, 
      ⟨(some 108), (.loadN 6 (.tmp 107)), (some (105, false))⟩, 
      ⟨(some 109), (.callF 61 [(.tmp 108)]), (some (105, false))⟩, 
      ⟨(some 110), (.un .not (.tmp 109)), (some (105, false))⟩, 
      ⟨(some 111), (.pick (.tmp 105) (.const (.bool true)) (.tmp 110)), none⟩])
     (.cond (.tmp 111)
      (.seq (.ops [
        ⟨(some 2), (.mv (.const (.bool false))), none⟩])
       .ret)
      .skip))
    (.seq (.seq (.ops [
       ⟨(some 112), (.mv (.tmp 3)), none⟩, 
       ⟨(some 113), (.idxSl 6 (.tmp 112) (.const (.int .i64 0))), none⟩, 
       ⟨(some 114), (.fieldAddr 0 (.tmp 113)), none⟩, 
       ⟨(some 115), (.load1 (.tmp 114)), none⟩, 
       ⟨(some 116), (.bin .eql (.tmp 115) (.const (.int .i64 22))), none⟩])
      (.cond (.tmp 116)
       (.seq (.ops [
         ⟨(some 117), (.mv (.tmp 3)), none⟩, 
         ⟨(some 118), (.idxSl 6 (.tmp 117) (.const (.int .i64 0))), none⟩, 
         ⟨(some 119), (.loadN 6 (.tmp 118)), none⟩, 
         ⟨(some 120), (.callF 59 [(.tmp 119)]), none⟩, 
         ⟨(some 121), (.mv (.tmp 120)), none⟩, 
         ⟨(some 122), (.mv (.tmp 3)), (some (121, true))⟩, 
         ⟨(some 123), (.idxSl 6 (.tmp 122) (.const (.int .i64 0))), (some (121, true))⟩, 
         ⟨(some 124), (.fieldAddr 5 (.tmp 123)), (some (121, true))⟩, 
         ⟨(some 125), (.load1 (.tmp 124)), (some (121, true))⟩, 
         ⟨(some 126), (.lenSl (.tmp 125)), (some (121, true))⟩, 
         ⟨(some 127), (.bin .eql (.tmp 126) (.const (.int .i64 1))), (some (121, true))⟩, 
         ⟨(some 128), (.pick (.tmp 121) (.tmp 127) (.const (.bool false))), none⟩, 
         ⟨(some 129), (.mv (.tmp 128)), none⟩, 
         ⟨(some 130), (.mv (.tmp 3)), (some (129, true))⟩, 
         ⟨(some 131), (.idxSl 6 (.tmp 130) (.const (.int .i64 0))), (some (129, true))⟩, 
         ⟨(some 132), (.fieldAddr 5 (.tmp 131)), (some (129, true))⟩, 
         ⟨(some 133), (.load1 (.tmp 132)), (some (129, true))⟩, 
         ⟨(some 134), (.idxSl 6 (.tmp 133) (.const (.int .i64 0))), (some (129, true))⟩, 
         ⟨(some 135), (.fieldAddr 5 (.tmp 134)), (some (129, true))⟩, 
         ⟨(some 136), (.load1 (.tmp 135)), (some (129, true))⟩, 
         ⟨(some 137), (.lenSl (.tmp 136)), (some (129, true))⟩, 
         ⟨(some 138), (.bin .eql (.tmp 137) (.const (.int .i64 0))), (some (129, true))⟩, 
         ⟨(some 139), (.pick (.tmp 129) (.tmp 138) (.const (.bool false))), none⟩, 
         ⟨(some 2), (.mv (.tmp 139)), none⟩])
        .ret)
       .skip))
     (.seq (.ops [
       ⟨(some 140), (.mv (.tmp 3)), none⟩, 
       ⟨(some 141), (.idxSl 6 (.tmp 140) (.const (.int .i64 0))), none⟩, 
       ⟨(some 142), (.loadN 6 (.tmp 141)), none⟩, 
       ⟨(some 143), (.callF 79 [(.tmp 142)]), none⟩, 
       ⟨(some 144), (.mv (.tmp 143)), none⟩, 
       ⟨(some 145), (.mv (.tmp 3)), (some (144, true))⟩, 
       ⟨(some 146), (.idxSl 6 (.tmp 145) (.const (.int .i64 0))), (some (144, true))⟩, 
       ⟨(some 147), (.loadN 6 (.tmp 146)), (some (144, true))⟩, 
       ⟨(some 148), (.callF 60 [(.tmp 147)]), (some (144, true))⟩, 
       ⟨(some 149), (.pick (.tmp 144) (.tmp 148) (.const (.bool false))), none⟩, 
       ⟨(some 2), (.mv (.tmp 149)), none⟩])
      .ret))))))
theorem c62 {args : Array Value} {h : Heap} {R : Ending → Heap → Prop} (ha : args.size ≤ 150) (hh : aexec Try.prog ac62 (abody [(.slot 2)] R) ⟨initFr args.toList, []⟩ h) : HCalls Try.prog 62 args h R :=
  hcalls_of Try.func62 rfl rfl (by kernel_rfl) (by kernel_rfl) ha hh
/-- 63: credenza/credenzaref07.exprs -/
def ac63 : ACode :=
 (.seq (.ops [
  ⟨(some 2), (.mv (.const (.bool false))), none⟩])
 (.seq (.seq (.ops [
    ⟨(some 5), (.mv (.tmp 0)), none⟩, 
    ⟨(some 6), (.lenSl (.tmp 5)), none⟩, 
    ⟨(some 7), (.mv (.const (.int .i64 0))), none⟩])
   (.block 0
    (.loop
     (.seq (.ops [
       ⟨(some 8), (.bin .lss (.tmp 7) (.tmp 6)), none⟩])
      (.seq (.cond (.tmp 8)
        .skip
        (.exit 0))
       (.seq (.block 1
         (.seq (.ops [
           ⟨(some 9), (.idxSl 6 (.tmp 5) (.tmp 7)), none⟩, 
           ⟨(some 10), (.loadN 6 (.tmp 9)), none⟩, 
           ⟨(some 4), (.new 26 [(.int .i64 0), (.string ⟨#[]⟩), (.int .i64 0), (.string ⟨#[]⟩), (.slice none 0 0), (.slice none 0 0)]), none⟩, 
           ⟨none, (.storeN 6 (.tmp 4) (.tmp 10)), none⟩])
          (.seq (.ops [
            ⟨(some 11), (.loadN 6 (.tmp 4)), none⟩, 
            ⟨(some 12), (.callF 60 [(.tmp 11)]), none⟩, 
            ⟨(some 13), (.un .not (.tmp 12)), none⟩])
           (.cond (.tmp 13)
            (.seq (.ops [
              ⟨(some 2), (.mv (.const (.bool false))), none⟩])
             .ret)
            .skip))))
        (.ops [
         ⟨(some 14), (.bin .add (.tmp 7) (.const (.int .i64 1))), none⟩, 
         ⟨(some 7), (.mv (.tmp 14)), none⟩])))))))
  (.seq (.ops [
    ⟨(some 2), (.mv (.const (.bool true))), none⟩])
   .ret)))
theorem c63 {args : Array Value} {h : Heap} {R : Ending → Heap → Prop} (ha : args.size ≤ 15) (hh : aexec Try.prog ac63 (abody [(.slot 2)] R) ⟨initFr args.toList, []⟩ h) : HCalls Try.prog 63 args h R :=
  hcalls_of Try.func63 rfl rfl (by kernel_rfl) (by kernel_rfl) ha hh
/-- 64: credenza/credenzaref07.empty -/
def ac64 : ACode :=
 (.seq (.ops [
  ⟨(some 1), (.box 26 (.tmp 0)), none⟩, 
  ⟨(some 2), (.mv (.const (.bool false))), none⟩])
 (.seq (.ops [
   ⟨(some 3), (.fieldAddr 0 (.tmp 1)), none⟩, 
   ⟨(some 4), (.load1 (.tmp 3)), none⟩, 
   ⟨(some 5), (.bin .eql (.tmp 4) (.const (.int .i64 42))), none⟩, 
   ⟨(some 6), (.mv (.tmp 5)), none⟩, 
   ⟨(some 7), (.loadN 6 (.tmp 1)), (some (6, true))⟩, 
   ⟨(some 8), (.callF 25 [(.tmp 7)]), (some (6, true))⟩, 
   ⟨(some 9), (.pick (.tmp 6) (.tmp 8) (.const (.bool false))), none⟩, 
   ⟨(some 10), (.mv (.tmp 9)), none⟩, 
   ⟨(some 11), (.fieldAddr 5 (.tmp 1)), (some (10, true))⟩, 
   ⟨(some 12), (.load1 (.tmp 11)), (some (10, true))⟩, 
   ⟨(some 13), (.lenSl (.tmp 12)), (some (10, true))⟩, 
   ⟨(some 14), (.bin .eql (.tmp 13) (.const (.int .i64 0))), (some (10, true))⟩, 
   ⟨(some 15), (.pick (.tmp 10) (.tmp 14) (.const (.bool false))), none⟩, 
   ⟨(some 2), (.mv (.tmp 15)), none⟩])
  .ret))
theorem c64 {args : Array Value} {h : Heap} {R : Ending → Heap → Prop} (ha : args.size ≤ 16) (hh : aexec Try.prog ac64 (abody [(.slot 2)] R) ⟨initFr args.toList, []⟩ h) : HCalls Try.prog 64 args h R :=
  hcalls_of Try.func64 rfl rfl (by kernel_rfl) (by kernel_rfl) ha hh
/-- 65: credenza/credenzaref07.cases -/
def ac65 : ACode :=
 (.seq (.ops [
  ⟨(some 2), (.mv (.const (.bool false))), none⟩])
 (.seq (.ops [
   ⟨(some 3), (.mv (.const (.int .i64 0))), none⟩])
  (.seq (.seq (.ops [
     ⟨(some 6), (.mv (.tmp 0)), none⟩, 
     ⟨(some 7), (.lenSl (.tmp 6)), none⟩, 
     ⟨(some 8), (.mv (.const (.int .i64 0))), none⟩])
    (.block 0
     (.loop
      (.seq (.ops [
        ⟨(some 9), (.bin .lss (.tmp 8) (.tmp 7)), none⟩])
       (.seq (.cond (.tmp 9)
         .skip
         (.exit 0))
        (.seq (.block 1
          (.seq (.ops [
            ⟨(some 10), (.idxSl 6 (.tmp 6) (.tmp 8)), none⟩, 
            ⟨(some 11), (.loadN 6 (.tmp 10)), none⟩, 
            ⟨(some 5), (.new 26 [(.int .i64 0), (.string ⟨#[]⟩), (.int .i64 0), (.string ⟨#[]⟩), (.slice none 0 0), (.slice none 0 0)]), none⟩, 
            ⟨none, (.storeN 6 (.tmp 5) (.tmp 11)), none⟩])
           (.seq (.seq (.ops [
              ⟨(some 12), (.fieldAddr 0 (.tmp 5)), none⟩, 
              ⟨(some 13), (.load1 (.tmp 12)), none⟩, 
              ⟨(some 14), (.bin .neq (.tmp 13) (.const (.int .i64 37))), none⟩, 
              ⟨(some 15), (.mv (.tmp 14)), none⟩, 
              ⟨(some 16), (.loadN 6 (.tmp 5)), (some (15, false))⟩, 
              ⟨(some 17), (.callF 25 [(.tmp 16)]), (some (15, false))⟩, 
              ⟨(some 18), (.un .not (.tmp 17)), (some (15, false))⟩, 
              ⟨(some 19), (.pick (.tmp 15) (.const (.bool true)) (.tmp 18)), none⟩, 
              ⟨(some 20), (.mv (.tmp 19)), none⟩, 
              ⟨(some 21), (.fieldAddr 5 (.tmp 5)), (some (20, false))⟩, 
              ⟨(some 22), (.load1 (.tmp 21)), (some (20, false))⟩, 
              ⟨(some 23), (.lenSl (.tmp 22)), (some (20, false))⟩, 
              ⟨(some 24), (.bin .eql (.tmp 23) (.const (.int .i64 0))), (some (20, false))⟩, 
              ⟨(some 25), (.pick (.tmp 20) (.const (.bool true)) (.tmp 24)), none⟩, 
              ⟨(some 26), (.mv (.tmp 25)), none⟩, 
              ⟨(some 27), (.fieldAddr 5 (.tmp 5)), (some (26, false))⟩, 
              ⟨(some 28), (.load1 (.tmp 27)), (some (26, false))⟩, 
              ⟨(some 29), (.idxSl 6 (.tmp 28) (.const (.int .i64 0))), (some (26, false))⟩, 
              ⟨(some 30), (.loadN 6 (.tmp 29)), (some (26, false))⟩, 
              ⟨(some 31), (.callF 64 [(.tmp 30)]), (some (26, false))⟩, 
              ⟨(some 32), (.un .not (.tmp 31)), (some (26, false))⟩, 
              ⟨(some 33), (.mv (.tmp 32)), (some (26, false))⟩, 
              ⟨(some 34), (.fieldAddr 5 (.tmp 5)), (some (33, true))⟩, 
              ⟨(some 35), (.load1 (.tmp 34)), (some (33, true))⟩, 
              ⟨(some 36), (.idxSl 6 (.tmp 35) (.const (.int .i64 0))), (some (33, true))⟩, 
              ⟨(some 37), (.loadN 6 (.tmp 36)), (some (33, true))⟩, 
              ⟨(some 38), (.callF 60 [(.tmp 37)]), (some (33, true))⟩, 
              ⟨(some 39), (.un .not (.tmp 38)), (some (33, true))⟩, 
              ⟨(some 40), (.pick (.tmp 33) (.tmp 39) (.const (.bool false))), (some (26, false))⟩, 
              ⟨(some 41), (.pick (.tmp 26) (.const (.bool true)) (.tmp 40)), none⟩, 
              ⟨(some 42), (.mv (.tmp 41)), none⟩, 
              ⟨(some 43), (.fieldAddr 5 (.tmp 5)), (some (42, false))⟩, 
              ⟨(some 44), (.load1 (.tmp 43)), (some (42, false))⟩, 
              ⟨(some 45), (.sliceSl 6 (.tmp 44) (some (.const (.int .i64 1))) none none), (some (42, false))⟩, 
              ⟨(some 46), (.callF 26 [(.tmp 45), (.const (.bool false))]), (some (42, false))⟩, 
              ⟨(some 47), (.un .not (.tmp 46)), (some (42, false))⟩, 
              ⟨(some 48), (.pick (.tmp 42) (.const (.bool true)) (.tmp 47)), none⟩])
             (.cond (.tmp 48)
              (.seq (.ops [
                ⟨(some 2), (.mv (.const (.bool false))), none⟩])
               .ret)
              .skip))
            (.seq (.ops [
              ⟨(some 49), (.fieldAddr 5 (.tmp 5)), none⟩, 
              ⟨(some 50), (.load1 (.tmp 49)), none⟩, 
              ⟨(some 51), (.idxSl 6 (.tmp 50) (.const (.int .i64 0))), none⟩, 
              ⟨(some 52), (.loadN 6 (.tmp 51)), none⟩, 
              ⟨(some 53), (.callF 64 [(.tmp 52)]), none⟩])
             (.cond (.tmp 53)
              (.ops [
               ⟨(some 54), (.mv (.tmp 3)), none⟩, 
               ⟨(some 55), (.bin .add (.tmp 54) (.const (.int .i64 1))), none⟩, 
               ⟨(some 3), (.mv (.tmp 55)), none⟩])
              .skip)))))
         (.ops [
          ⟨(some 56), (.bin .add (.tmp 8) (.const (.int .i64 1))), none⟩, 
          ⟨(some 8), (.mv (.tmp 56)), none⟩])))))))
   (.seq (.ops [
     ⟨(some 57), (.mv (.tmp 3)), none⟩, 
     ⟨(some 58), (.bin .leq (.tmp 57) (.const (.int .i64 1))), none⟩, 
     ⟨(some 2), (.mv (.tmp 58)), none⟩])
    .ret))))
theorem c65 {args : Array Value} {h : Heap} {R : Ending → Heap → Prop} (ha : args.size ≤ 59) (hh : aexec Try.prog ac65 (abody [(.slot 2)] R) ⟨initFr args.toList, []⟩ h) : HCalls Try.prog 65 args h R :=
  hcalls_of Try.func65 rfl rfl (by kernel_rfl) (by kernel_rfl) ha hh
/-- 66: credenza/tree.statement -/
def ac66 : ACode :=
 (.seq (.ops [
  ⟨(some 1), (.box 26 (.tmp 0)), none⟩, 
  ⟨(some 2), (.new 58 [(.string ⟨#[]⟩), (.int .i64 0), (.bool false), (.bool false), (.string ⟨#[]⟩)]), none⟩, 
  ⟨(some 3), (.mv (.const (.bool false))), none⟩])
 (.seq (.seq (.ops [
    ⟨(some 4), (.fieldAddr 0 (.tmp 1)), none⟩, 
    ⟨(some 5), (.load1 (.tmp 4)), none⟩])
   (.block 0
    (.seq (.ops [
      ⟨(some 8), (.bin .eql (.tmp 5) (.const (.int .i64 22))), none⟩, 
      ⟨(some 7), (.mv (.tmp 8)), none⟩])
     (.cond (.tmp 7)
      (.ops [
       ⟨(some 9), (.fieldAddr 4 (.tmp 2)), none⟩, 
       ⟨none, (.store1 (.tmp 9) (.const (.string ⟨#[100, 42, 100]⟩))), none⟩])
      (.seq (.ops [
        ⟨(some 11), (.bin .eql (.tmp 5) (.const (.int .i64 23))), none⟩, 
        ⟨(some 10), (.mv (.tmp 11)), none⟩])
       (.cond (.tmp 10)
        (.seq (.any [12, 13, 14, 15, 16, 17, 18] [
          ⟨(some 12), (.fieldAddr 5 (.tmp 1)), none⟩, 
          ⟨(some 17), (.fieldAddr 0 (.tmp 2)), none⟩])
         (.alt
          (.any [12, 13, 14, 15, 16, 17, 18] [
           ⟨(some 13), (.load1 (.tmp 12)), none⟩, 
           ⟨(some 14), (.lenSl (.tmp 13)), none⟩, 
           ⟨(some 15), (.minmax false (.tmp 14) [(.const (.int .i64 1))]), none⟩, 
           ⟨(some 16), (.sliceStr (.const (.string ⟨#[101]⟩)) none (some (.tmp 15))), none⟩, 
           ⟨none, (.store1 (.tmp 17) (.const (.string ⟨#[110]⟩))), none⟩, 
           ⟨(some 18), (.fieldAddr 4 (.tmp 2)), none⟩, 
           ⟨none, (.store1 (.tmp 18) (.tmp 16)), none⟩])
          (.any [12, 13, 14, 15, 16, 17, 18] [
           ⟨none, (.store1 (.tmp 17) (.const (.string ⟨#[110]⟩))), none⟩, 
           ⟨(some 13), (.load1 (.tmp 12)), none⟩, 
           ⟨(some 14), (.lenSl (.tmp 13)), none⟩, 
           ⟨(some 15), (.minmax false (.tmp 14) [(.const (.int .i64 1))]), none⟩, 
           ⟨(some 16), (.sliceStr (.const (.string ⟨#[101]⟩)) none (some (.tmp 15))), none⟩, 
           ⟨(some 18), (.fieldAddr 4 (.tmp 2)), none⟩, 
           ⟨none, (.store1 (.tmp 18) (.tmp 16)), none⟩])))
        (.seq (.seq (.ops [
           ⟨(some 20), (.bin .eql (.tmp 5) (.const (.int .i64 24))), none⟩, 
           ⟨(some 19), (.mv (.tmp 20)), none⟩])
          (.cond (.tmp 19)
           .skip
           (.ops [
            ⟨(some 21), (.bin .eql (.tmp 5) (.const (.int .i64 34))), none⟩, 
            ⟨(some 19), (.mv (.tmp 21)), none⟩])))
         (.cond (.tmp 19)
          (.ops [
           ⟨(some 22), (.fieldAddr 4 (.tmp 2)), none⟩, 
           ⟨none, (.store1 (.tmp 22) (.const (.string ⟨#[101]⟩))), none⟩])
          (.seq (.ops [
            ⟨(some 24), (.bin .eql (.tmp 5) (.const (.int .i64 25))), none⟩, 
            ⟨(some 23), (.mv (.tmp 24)), none⟩])
           (.cond (.tmp 23)
            (.ops [
             ⟨(some 25), (.fieldAddr 4 (.tmp 2)), none⟩, 
             ⟨none, (.store1 (.tmp 25) (.const (.string ⟨#[42, 115]⟩))), none⟩])
            (.seq (.ops [
              ⟨(some 27), (.bin .eql (.tmp 5) (.const (.int .i64 26))), none⟩, 
              ⟨(some 26), (.mv (.tmp 27)), none⟩])
             (.cond (.tmp 26)
              (.ops [
               ⟨(some 28), (.fieldAddr 5 (.tmp 1)), none⟩, 
               ⟨(some 29), (.load1 (.tmp 28)), none⟩, 
               ⟨(some 30), (.lenSl (.tmp 29)), none⟩, 
               ⟨(some 31), (.minmax true (.tmp 30) [(.const (.int .i64 2))]), none⟩, 
               ⟨(some 32), (.minmax false (.tmp 31) [(.const (.int .i64 3))]), none⟩, 
               ⟨(some 33), (.sliceStr (.const (.string ⟨#[101, 98, 98]⟩)) none (some (.tmp 32))), none⟩, 
               ⟨(some 34), (.fieldAddr 4 (.tmp 2)), none⟩, 
               ⟨none, (.store1 (.tmp 34) (.tmp 33)), none⟩])
              (.seq (.ops [
                ⟨(some 36), (.bin .eql (.tmp 5) (.const (.int .i64 27))), none⟩, 
                ⟨(some 35), (.mv (.tmp 36)), none⟩])
               (.cond (.tmp 35)
                (.ops [
                 ⟨(some 37), (.fieldAddr 4 (.tmp 2)), none⟩, 
                 ⟨none, (.store1 (.tmp 37) (.const (.string ⟨#[101, 98]⟩))), none⟩])
                (.seq (.ops [
                  ⟨(some 39), (.bin .eql (.tmp 5) (.const (.int .i64 28))), none⟩, 
                  ⟨(some 38), (.mv (.tmp 39)), none⟩])
                 (.cond (.tmp 38)
                  (.ops [
                   ⟨(some 40), (.fieldAddr 4 (.tmp 2)), none⟩, 
                   ⟨none, (.store1 (.tmp 40) (.const (.string ⟨#[98, 101]⟩))), none⟩])
                  (.seq (.ops [
                    ⟨(some 42), (.bin .eql (.tmp 5) (.const (.int .i64 29))), none⟩, 
                    ⟨(some 41), (.mv (.tmp 42)), none⟩])
                   (.cond (.tmp 41)
                    (.ops [
                     ⟨(some 43), (.fieldAddr 4 (.tmp 2)), none⟩, 
                     ⟨none, (.store1 (.tmp 43) (.const (.string ⟨#[118, 102, 102, 98]⟩))), none⟩])
                    (.seq (.ops [
                      ⟨(some 45), (.bin .eql (.tmp 5) (.const (.int .i64 30))), none⟩, 
                      ⟨(some 44), (.mv (.tmp 45)), none⟩])
                     (.cond (.tmp 44)
                      (.ops [
                       ⟨(some 46), (.fieldAddr 4 (.tmp 2)), none⟩, 
                       ⟨none, (.store1 (.tmp 46) (.const (.string ⟨#[119, 101, 98]⟩))), none⟩])
                      (.seq (.seq (.ops [
                         ⟨(some 48), (.bin .eql (.tmp 5) (.const (.int .i64 31))), none⟩, 
                         ⟨(some 47), (.mv (.tmp 48)), none⟩])
                        (.cond (.tmp 47)
                         .skip
                         (.ops [
                          ⟨(some 49), (.bin .eql (.tmp 5) (.const (.int .i64 32))), none⟩, 
                          ⟨(some 47), (.mv (.tmp 49)), none⟩])))
                       (.cond (.tmp 47)
                        (.ops [
                         ⟨(some 50), (.fieldAddr 0 (.tmp 2)), none⟩, 
                         ⟨none, (.store1 (.tmp 50) (.const (.string ⟨#[109]⟩))), none⟩])
                        (.seq (.ops [
                          ⟨(some 52), (.bin .eql (.tmp 5) (.const (.int .i64 33))), none⟩, 
                          ⟨(some 51), (.mv (.tmp 52)), none⟩])
                         (.cond (.tmp 51)
                          (.ops [
                           ⟨(some 53), (.fieldAddr 5 (.tmp 1)), none⟩, 
                           ⟨(some 54), (.load1 (.tmp 53)), none⟩, 
                           ⟨(some 55), (.lenSl (.tmp 54)), none⟩, 
                           ⟨(some 56), (.minmax false (.tmp 55) [(.const (.int .i64 1))]), none⟩, 
                           ⟨(some 57), (.sliceStr (.const (.string ⟨#[101]⟩)) none (some (.tmp 56))), none⟩, 
                           ⟨(some 58), (.fieldAddr 4 (.tmp 2)), none⟩, 
                           ⟨none, (.store1 (.tmp 58) (.tmp 57)), none⟩])
                          (.seq (.ops [
                            ⟨(some 60), (.bin .eql (.tmp 5) (.const (.int .i64 35))), none⟩, 
                            ⟨(some 59), (.mv (.tmp 60)), none⟩])
                           (.cond (.tmp 59)
                            (.ops [
                             ⟨(some 61), (.fieldAddr 0 (.tmp 2)), none⟩, 
                             ⟨none, (.store1 (.tmp 61) (.const (.string ⟨#[99]⟩))), none⟩, 
                             ⟨(some 62), (.fieldAddr 4 (.tmp 2)), none⟩, 
                             ⟨none, (.store1 (.tmp 62) (.const (.string ⟨#[98, 99, 99]⟩))), none⟩])
                            (.seq (.ops [
                              ⟨(some 64), (.bin .eql (.tmp 5) (.const (.int .i64 36))), none⟩, 
                              ⟨(some 63), (.mv (.tmp 64)), none⟩])
                             (.cond (.tmp 63)
                              (.ops [
                               ⟨(some 65), (.fieldAddr 4 (.tmp 2)), none⟩, 
                               ⟨none, (.store1 (.tmp 65) (.const (.string ⟨#[101, 42, 107]⟩))), none⟩])
                              (.seq (.ops [
                                ⟨(some 67), (.bin .eql (.tmp 5) (.const (.int .i64 37))), none⟩, 
                                ⟨(some 66), (.mv (.tmp 67)), none⟩])
                               (.cond (.tmp 66)
                                (.ops [
                                 ⟨(some 68), (.fieldAddr 4 (.tmp 2)), none⟩, 
                                 ⟨none, (.store1 (.tmp 68) (.const (.string ⟨#[102, 42, 115]⟩))), none⟩])
                                (.seq (.ops [
                                  ⟨(some 70), (.bin .eql (.tmp 5) (.const (.int .i64 38))), none⟩, 
                                  ⟨(some 69), (.mv (.tmp 70)), none⟩])
                                 (.cond (.tmp 69)
                                  (.ops [
                                   ⟨(some 71), (.fieldAddr 0 (.tmp 2)), none⟩, 
                                   ⟨none, (.store1 (.tmp 71) (.const (.string ⟨#[110]⟩))), none⟩, 
                                   ⟨(some 72), (.fieldAddr 4 (.tmp 2)), none⟩, 
                                   ⟨none, (.store1 (.tmp 72) (.const (.string ⟨#[115]⟩))), none⟩])
                                  (.seq (.ops [
                                    ⟨(some 74), (.bin .eql (.tmp 5) (.const (.int .i64 39))), none⟩, 
                                    ⟨(some 73), (.mv (.tmp 74)), none⟩])
                                   (.cond (.tmp 73)
                                    (.ops [
                                     ⟨(some 75), (.fieldAddr 0 (.tmp 2)), none⟩, 
                                     ⟨none, (.store1 (.tmp 75) (.const (.string ⟨#[110]⟩))), none⟩, 
                                     ⟨(some 76), (.fieldAddr 3 (.tmp 2)), none⟩, 
                                     ⟨none, (.store1 (.tmp 76) (.const (.bool true))), none⟩, 
                                     ⟨(some 77), (.fieldAddr 4 (.tmp 2)), none⟩, 
                                     ⟨none, (.store1 (.tmp 77) (.const (.string ⟨#[42, 120]⟩))), none⟩])
                                    (.seq (.ops [
                                      ⟨(some 79), (.bin .eql (.tmp 5) (.const (.int .i64 41))), none⟩, 
                                      ⟨(some 78), (.mv (.tmp 79)), none⟩])
                                     (.cond (.tmp 78)
                                      (.ops [
                                       ⟨(some 80), (.fieldAddr 4 (.tmp 2)), none⟩, 
                                       ⟨none, (.store1 (.tmp 80) (.const (.string ⟨#[42, 120]⟩))), none⟩])
                                      (.seq (.ops [
                                        ⟨(some 6), (.loadN 5 (.tmp 2)), none⟩, 
                                        ⟨none, (.storeN 5 (.tmp 2) (.tmp 6)), none⟩, 
                                        ⟨(some 3), (.mv (.const (.bool false))), none⟩])
                                       .ret)))))))))))))))))))))))))))))))))))))
  (.seq (.ops [
    ⟨(some 81), (.loadN 5 (.tmp 2)), none⟩, 
    ⟨none, (.storeN 5 (.tmp 2) (.tmp 81)), none⟩, 
    ⟨(some 3), (.mv (.const (.bool true))), none⟩])
   .ret)))
theorem c66 {args : Array Value} {h : Heap} {R : Ending → Heap → Prop} (ha : args.size ≤ 82) (hh : aexec Try.prog ac66 (abody [(.cellN 2 5), (.slot 3)] R) ⟨initFr args.toList, []⟩ h) : HCalls Try.prog 66 args h R :=
  hcalls_of Try.func66 rfl rfl (by kernel_rfl) (by kernel_rfl) ha hh
/-- 67: credenza/token.IsIdent -/
def ac67 : ACode :=
 (.seq (.ops [
  ⟨(some 2), (.mv (.const (.bool false))), none⟩])
 (.seq (.ops [
   ⟨(some 3), (.mv (.tmp 0)), none⟩, 
   ⟨(some 4), (.bin .neq (.tmp 3) (.const (.string ⟨#[]⟩))), none⟩, 
   ⟨(some 5), (.mv (.tmp 4)), none⟩, 
   ⟨(some 6), (.mv (.tmp 0)), (some (5, true))⟩, 
   ⟨(some 7), (.lenStr (.tmp 6)), (some (5, true))⟩, 
   ⟨(some 8), (.bin .leq (.tmp 7) (.const (.int .i64 32))), (some (5, true))⟩, 
   ⟨(some 9), (.pick (.tmp 5) (.tmp 8) (.const (.bool false))), none⟩, 
   ⟨(some 10), (.mv (.tmp 9)), none⟩, 
   ⟨(some 11), (.mv (.tmp 0)), (some (10, true))⟩, 
   ⟨(some 12), (.idxStr (.tmp 11) (.const (.int .i64 0))), (some (10, true))⟩, 
   ⟨(some 13), (.callF 80 [(.tmp 12)]), (some (10, true))⟩, 
   ⟨(some 14), (.pick (.tmp 10) (.tmp 13) (.const (.bool false))), none⟩, 
   ⟨(some 15), (.mv (.tmp 14)), none⟩, 
   ⟨(some 16), (.mv (.tmp 0)), (some (15, true))⟩, 
   ⟨(some 17), (.callF 81 [(.tmp 16)]), (some (15, true))⟩, 
   ⟨(some 18), (.mv (.tmp 0)), (some (15, true))⟩, 
   ⟨(some 19), (.lenStr (.tmp 18)), (some (15, true))⟩, 
   ⟨(some 20), (.bin .eql (.tmp 17) (.tmp 19)), (some (15, true))⟩, 
   ⟨(some 21), (.pick (.tmp 15) (.tmp 20) (.const (.bool false))), none⟩, 
   ⟨(some 2), (.mv (.tmp 21)), none⟩])
  .ret))
theorem c67 {args : Array Value} {h : Heap} {R : Ending → Heap → Prop} (ha : args.size ≤ 22) (hh : aexec Try.prog ac67 (abody [(.slot 2)] R) ⟨initFr args.toList, []⟩ h) : HCalls Try.prog 67 args h R :=
  hcalls_of Try.func67 rfl rfl (by kernel_rfl) (by kernel_rfl) ha hh
/-- 68: credenza/tree.among -/
def ac68 : ACode :=
 (.seq (.ops [
  ⟨(some 4), (.mv (.const (.bool false))), none⟩])
 (.seq (.ops [
   ⟨(some 5), (.mv (.tmp 1)), none⟩, 
   ⟨(some 6), (.bin .neq (.tmp 5) (.const (.string ⟨#[]⟩))), none⟩, 
   ⟨(some 7), (.mv (.tmp 6)), none⟩, 
   ⟨(some 8), (.mv (.tmp 1)), (some (7, true))⟩, 
   ⟨(some 9), (.callF 82 [(.tmp 8), (.const (.string ⟨#[32]⟩))]), (some (7, true))⟩, 
   ⟨(some 10), (.un .not (.tmp 9)), (some (7, true))⟩, 
   ⟨(some 11), (.pick (.tmp 7) (.tmp 10) (.const (.bool false))), none⟩, 
   ⟨(some 12), (.mv (.tmp 11)), none⟩, 
   ⟨(some 13), (.mv (.tmp 0)), (some (12, true))⟩, 
   ⟨(some 14), (.mv (.tmp 1)), (some (12, true))⟩, 
   ⟨(some 15), (.bin .add (.const (.string ⟨#[32]⟩)) (.tmp 14)), (some (12, true))⟩, 
   ⟨(some 16), (.bin .add (.tmp 15) (.const (.string ⟨#[32]⟩))), (some (12, true))⟩, 
   ⟨(some 17), (.callF 82 [(.tmp 13), (.tmp 16)]), (some (12, true))⟩, 
   ⟨(some 18), (.pick (.tmp 12) (.tmp 17) (.const (.bool false))), none⟩, 
   ⟨(some 4), (.mv (.tmp 18)), none⟩])
  .ret))
theorem c68 {args : Array Value} {h : Heap} {R : Ending → Heap → Prop} (ha : args.size ≤ 19) (hh : aexec Try.prog ac68 (abody [(.slot 4)] R) ⟨initFr args.toList, []⟩ h) : HCalls Try.prog 68 args h R :=
  hcalls_of Try.func68 rfl rfl (by kernel_rfl) (by kernel_rfl) ha hh
/-- 69: credenza/token.IsWord -/
def ac69 : ACode :=
 (.seq (.ops [
  ⟨(some 2), (.mv (.const (.bool false))), none⟩])
 (.seq (.ops [
   ⟨(some 3), (.mv (.tmp 0)), none⟩, 
   ⟨(some 4), (.callF 83 [(.const (.string ⟨#[32, 98, 114, 101, 97, 107, 32, 99, 97, 115, 101, 32, 99, 97, 116, 99, 104, 32, 99, 108, 97, 115, 115, 32, 99, 111, 110, 115, 116, 32, 99, 111, 110, 116, 105, 110, 117, 101, 32, 100, 101, 98, 117, 103, 103, 101, 114, 32, 100, 101, 102, 97, 117, 108, 116, 32, 100, 101, 108, 101, 116, 101, 32, 100, 111, 32, 101, 108, 115, 101, 32, 101, 110, 117, 109, 32, 101, 120, 112, 111, 114, 116, 32, 101, 120, 116, 101, 110, 100, 115, 32, 102, 97, 108, 115, 101, 32, 102, 105, 110, 97, 108, 108, 121, 32, 102, 111, 114, 32, 102, 117, 110, 99, 116, 105, 111, 110, 32, 105, 102, 32, 105, 109, 112, 108, 101, 109, 101, 110, 116, 115, 32, 105, 109, 112, 111, 114, 116, 32, 105, 110, 32, 105, 110, 115, 116, 97, 110, 99, 101, 111, 102, 32, 105, 110, 116, 101, 114, 102, 97, 99, 101, 32, 108, 101, 116, 32, 110, 101, 119, 32, 110, 117, 108, 108, 32, 112, 97, 99, 107, 97, 103, 101, 32, 112, 114, 105, 118, 97, 116, 101, 32, 112, 114, 111, 116, 101, 99, 116, 101, 100, 32, 112, 117, 98, 108, 105, 99, 32, 114, 101, 116, 117, 114, 110, 32, 115, 116, 97, 116, 105, 99, 32, 115, 117, 112, 101, 114, 32, 115, 119, 105, 116, 99, 104, 32, 116, 104, 105, 115, 32, 116, 104, 114, 111, 119, 32, 116, 114, 117, 101, 32, 116, 114, 121, 32, 116, 121, 112, 101, 111, 102, 32, 118, 97, 114, 32, 118, 111, 105, 100, 32, 119, 104, 105, 108, 101, 32, 119, 105, 116, 104, 32, 121, 105, 101, 108, 100, 32]⟩)), (.tmp 3)]), none⟩, 
   ⟨(some 2), (.mv (.tmp 4)), none⟩])
  .ret))
theorem c69 {args : Array Value} {h : Heap} {R : Ending → Heap → Prop} (ha : args.size ≤ 5) (hh : aexec Try.prog ac69 (abody [(.slot 2)] R) ⟨initFr args.toList, []⟩ h) : HCalls Try.prog 69 args h R :=
  hcalls_of Try.func69 rfl rfl (by kernel_rfl) (by kernel_rfl) ha hh
/-- 71: credenza/tree.IsTarget -/
def ac71 : ACode :=
 (.seq (.ops [
  ⟨(some 1), (.box 26 (.tmp 0)), none⟩, 
  ⟨(some 2), (.mv (.const (.bool false))), none⟩])
 (.seq (.ops [
   ⟨(some 3), (.fieldAddr 0 (.tmp 1)), none⟩, 
   ⟨(some 4), (.load1 (.tmp 3)), none⟩, 
   ⟨(some 5), (.bin .eql (.tmp 4) (.const (.int .i64 3))), none⟩, 
   ⟨(some 6), (.mv (.tmp 5)), none⟩, 
   ⟨(some 7), (.fieldAddr 0 (.tmp 1)), (some (6, false))⟩, 
   ⟨(some 8), (.load1 (.tmp 7)), (some (6, false))⟩, 
   ⟨(some 9), (.bin .eql (.tmp 8) (.const (.int .i64 11))), (some (6, false))⟩, 
   ⟨(some 10), (.pick (.tmp 6) (.const (.bool true)) (.tmp 9)), none⟩, 
   ⟨(some 11), (.mv (.tmp 10)), none⟩, 
   ⟨(some 12), (.fieldAddr 0 (.tmp 1)), (some (11, false))⟩, 
   ⟨(some 13), (.load1 (.tmp 12)), (some (11, false))⟩, 
   ⟨(some 14), (.bin .eql (.tmp 13) (.const (.int .i64 12))), (some (11, false))⟩, 
   ⟨(some 15), (.pick (.tmp 11) (.const (.bool true)) (.tmp 14)), none⟩, 
   ⟨(some 2), (.mv (.tmp 15)), none⟩])
  .ret))
theorem c71 {args : Array Value} {h : Heap} {R : Ending → Heap → Prop} (ha : args.size ≤ 16) (hh : aexec Try.prog ac71 (abody [(.slot 2)] R) ⟨initFr args.toList, []⟩ h) : HCalls Try.prog 71 args h R :=
  hcalls_of Try.func71 rfl rfl (by kernel_rfl) (by kernel_rfl) ha hh
/-- 72: slices.Collect[string] -/
def ac72 : ACode :=
 (.seq (.ops [
  ⟨(some 2), (.mv (.const (.slice none 0 0))), none⟩])
 (.seq (.ops [
   ⟨(some 3), (.mv (.tmp 0)), none⟩, 
   ⟨(some 4), (.callF 85 [(.const (.slice none 0 0)), (.tmp 3)]), none⟩, 
   ⟨(some 2), (.mv (.tmp 4)), none⟩])
  .ret))
theorem c72 {args : Array Value} {h : Heap} {R : Ending → Heap → Prop} (ha : args.size ≤ 5) (hh : aexec Try.prog ac72 (abody [(.slot 2)] R) ⟨initFr args.toList, []⟩ h) : HCalls Try.prog 72 args h R :=
  hcalls_of Try.func72 rfl rfl (by kernel_rfl) (by kernel_rfl) ha hh
/-- 74: slices.Values[[]string,string]$1 -/
def ac74 : ACode :=
 (.seq (.ops [
  ⟨(some 5), (.load1 (.tmp 1)), none⟩, 
  ⟨(some 6), (.lenSl (.tmp 5)), none⟩, 
  ⟨(some 7), (.mv (.const (.int .i64 0))), none⟩])
 (.block 0
  (.loop
   (.seq (.ops [
     ⟨(some 8), (.bin .lss (.tmp 7) (.tmp 6)), none⟩])
    (.seq (.cond (.tmp 8)
      .skip
      (.exit 0))
     (.seq (.block 1
       (.seq (.ops [
         ⟨(some 9), (.idxSl 1 (.tmp 5) (.tmp 7)), none⟩, 
         ⟨(some 10), (.load1 (.tmp 9)), none⟩, 
         ⟨(some 4), (.mv (.tmp 10)), none⟩])
        (.seq (.ops [
          ⟨(some 11), (.mv (.tmp 0)), none⟩, 
          ⟨(some 12), (.mv (.tmp 4)), none⟩, 
          ⟨(some 13), (.callV (.tmp 11) [(.tmp 12)]), none⟩, 
          ⟨(some 14), (.un .not (.tmp 13)), none⟩])
         (.cond (.tmp 14)
          .ret
          .skip))))
      (.ops [
       ⟨(some 15), (.bin .add (.tmp 7) (.const (.int .i64 1))), none⟩, 
       ⟨(some 7), (.mv (.tmp 15)), none⟩])))))))
theorem c74 {args : Array Value} {h : Heap} {R : Ending → Heap → Prop} (ha : args.size ≤ 16) (hh : aexec Try.prog ac74 (abody [] R) ⟨initFr args.toList, []⟩ h) : HCalls Try.prog 74 args h R :=
  hcalls_of Try.func74 rfl rfl (by kernel_rfl) (by kernel_rfl) ha hh
/-- 75: credenza/credenzaref06.digit -/
def ac75 : ACode :=
 (.seq (.ops [
  ⟨(some 2), (.mv (.const (.bool false))), none⟩])
 (.seq (.ops [
   ⟨(some 3), (.mv (.tmp 0)), none⟩, 
   ⟨(some 4), (.bin .geq (.tmp 3) (.const (.int .u8 48))), none⟩, 
   ⟨(some 5), (.mv (.tmp 4)), none⟩, 
   ⟨(some 6), (.mv (.tmp 0)), (some (5, true))⟩, 
   ⟨(some 7), (.bin .leq (.tmp 6) (.const (.int .u8 57))), (some (5, true))⟩, 
   ⟨(some 8), (.pick (.tmp 5) (.tmp 7) (.const (.bool false))), none⟩, 
   ⟨(some 2), (.mv (.tmp 8)), none⟩])
  .ret))
theorem c75 {args : Array Value} {h : Heap} {R : Ending → Heap → Prop} (ha : args.size ≤ 9) (hh : aexec Try.prog ac75 (abody [(.slot 2)] R) ⟨initFr args.toList, []⟩ h) : HCalls Try.prog 75 args h R :=
  hcalls_of Try.func75 rfl rfl (by kernel_rfl) (by kernel_rfl) ha hh
/-- 76: credenza/credenzaref06.letter -/
def ac76 : ACode :=
 (.seq (.ops [
  ⟨(some 2), (.mv (.const (.bool false))), none⟩])
 (.seq (.ops [
   ⟨(some 3), (.mv (.tmp 0)), none⟩, 
   ⟨(some 4), (.bin .geq (.tmp 3) (.const (.int .u8 97))), none⟩, 
   ⟨(some 5), (.mv (.tmp 4)), none⟩, 
   ⟨(some 6), (.mv (.tmp 0)), (some (5, true))⟩, 
   ⟨(some 7), (.bin .leq (.tmp 6) (.const (.int .u8 122))), (some (5, true))⟩, 
   ⟨(some 8), (.pick (.tmp 5) (.tmp 7) (.const (.bool false))), none⟩, 
   ⟨(some 9), (.mv (.tmp 8)), none⟩, 
   ⟨(some 10), (.mv (.tmp 0)), (some (9, false))⟩, 
   ⟨(some 11), (.bin .geq (.tmp 10) (.const (.int .u8 65))), (some (9, false))⟩, 
   ⟨(some 12), (.mv (.tmp 11)), (some (9, false))⟩, 
   ⟨(some 13), (.mv (.tmp 0)), (some (12, true))⟩, 
   ⟨(some 14), (.bin .leq (.tmp 13) (.const (.int .u8 90))), (some (12, true))⟩, 
   ⟨(some 15), (.pick (.tmp 12) (.tmp 14) (.const (.bool false))), (some (9, false))⟩, 
   ⟨(some 16), (.pick (.tmp 9) (.const (.bool true)) (.tmp 15)), none⟩, 
   ⟨(some 17), (.mv (.tmp 16)), none⟩, 
   ⟨(some 18), (.mv (.tmp 0)), (some (17, false))⟩, 
   ⟨(some 19), (.bin .eql (.tmp 18) (.const (.int .u8 95))), (some (17, false))⟩, 
   ⟨(some 20), (.pick (.tmp 17) (.const (.bool true)) (.tmp 19)), none⟩, 
   ⟨(some 21), (.mv (.tmp 20)), none⟩, 
   ⟨(some 22), (.mv (.tmp 0)), (some (21, false))⟩, 
   ⟨(some 23), (.bin .eql (.tmp 22) (.const (.int .u8 36))), (some (21, false))⟩, 
   ⟨(some 24), (.pick (.tmp 21) (.const (.bool true)) (.tmp 23)), none⟩, 
   ⟨(some 2), (.mv (.tmp 24)), none⟩])
  .ret))
theorem c76 {args : Array Value} {h : Heap} {R : Ending → Heap → Prop} (ha : args.size ≤ 25) (hh : aexec Try.prog ac76 (abody [(.slot 2)] R) ⟨initFr args.toList, []⟩ h) : HCalls Try.prog 76 args h R :=
  hcalls_of Try.func76 rfl rfl (by kernel_rfl) (by kernel_rfl) ha hh
/-- 77: credenza/credenzaref07.has -/
def ac77 : ACode :=
 (.seq (.ops [
  ⟨(some 4), (.mv (.const (.bool false))), none⟩])
 (.seq (.seq (.ops [
    ⟨(some 7), (.mv (.tmp 0)), none⟩, 
    ⟨(some 8), (.lenSl (.tmp 7)), none⟩, 
    ⟨(some 9), (.mv (.const (.int .i64 0))), none⟩])
   (.block 0
    (.loop
     (.seq (.ops [
       ⟨(some 10), (.bin .lss (.tmp 9) (.tmp 8)), none⟩])
      (.seq (.cond (.tmp 10)
        .skip
        (.exit 0))
       (.seq (.block 1
         (.seq (.ops [
           ⟨(some 11), (.idxSl 1 (.tmp 7) (.tmp 9)), none⟩, 
           ⟨(some 12), (.load1 (.tmp 11)), none⟩, 
           ⟨(some 6), (.mv (.tmp 12)), none⟩])
          (.seq (.ops [
            ⟨(some 13), (.mv (.tmp 6)), none⟩, 
            ⟨(some 14), (.mv (.tmp 1)), none⟩, 
            ⟨(some 15), (.bin .eql (.tmp 13) (.tmp 14)), none⟩])
           (.cond (.tmp 15)
            (.seq (.ops [
              ⟨(some 4), (.mv (.const (.bool true))), none⟩])
             .ret)
            .skip))))
        (.ops [
         ⟨(some 16), (.bin .add (.tmp 9) (.const (.int .i64 1))), none⟩, 
         ⟨(some 9), (.mv (.tmp 16)), none⟩])))))))
  (.seq (.ops [
    ⟨(some 4), (.mv (.const (.bool false))), none⟩])
   .ret)))
theorem c77 {args : Array Value} {h : Heap} {R : Ending → Heap → Prop} (ha : args.size ≤ 17) (hh : aexec Try.prog ac77 (abody [(.slot 4)] R) ⟨initFr args.toList, []⟩ h) : HCalls Try.prog 77 args h R :=
  hcalls_of Try.func77 rfl rfl (by kernel_rfl) (by kernel_rfl) ha hh
/-- 78: credenza/credenzaref06.words -/
def ac78 : ACode :=
 (.seq (.ops [
  ⟨(some 0), (.mv (.const (.slice none 0 0))), none⟩])
 (.seq (.ops [
   ⟨(some 1), (.buildSlice 9 45 [(.string ⟨#[]⟩), (.string ⟨#[]⟩), (.string ⟨#[]⟩), (.string ⟨#[]⟩), (.string ⟨#[]⟩), (.string ⟨#[]⟩), (.string ⟨#[]⟩), (.string ⟨#[]⟩), (.string ⟨#[]⟩), (.string ⟨#[]⟩), (.string ⟨#[]⟩), (.string ⟨#[]⟩), (.string ⟨#[]⟩), (.string ⟨#[]⟩), (.string ⟨#[]⟩), (.string ⟨#[]⟩), (.string ⟨#[]⟩), (.string ⟨#[]⟩), (.string ⟨#[]⟩), (.string ⟨#[]⟩), (.string ⟨#[]⟩), (.string ⟨#[]⟩), (.string ⟨#[]⟩), (.string ⟨#[]⟩), (.string ⟨#[]⟩), (.string ⟨#[]⟩), (.string ⟨#[]⟩), (.string ⟨#[]⟩), (.string ⟨#[]⟩), (.string ⟨#[]⟩), (.string ⟨#[]⟩), (.string ⟨#[]⟩), (.string ⟨#[]⟩), (.string ⟨#[]⟩), (.string ⟨#[]⟩), (.string ⟨#[]⟩), (.string ⟨#[]⟩), (.string ⟨#[]⟩), (.string ⟨#[]⟩), (.string ⟨#[]⟩), (.string ⟨#[]⟩), (.string ⟨#[]⟩), (.string ⟨#[]⟩), (.string ⟨#[]⟩), (.string ⟨#[]⟩)] [(0, 1, (.const (.string ⟨#[98, 114, 101, 97, 107]⟩))), (1, 1, (.const (.string ⟨#[99, 97, 115, 101]⟩))), (2, 1, (.const (.string ⟨#[99, 97, 116, 99, 104]⟩))), (3, 1, (.const (.string ⟨#[99, 108, 97, 115, 115]⟩))), (4, 1, (.const (.string ⟨#[99, 111, 110, 115, 116]⟩))), (5, 1, (.const (.string ⟨#[99, 111, 110, 116, 105, 110, 117, 101]⟩))), (6, 1, (.const (.string ⟨#[100, 101, 98, 117, 103, 103, 101, 114]⟩))), (7, 1, (.const (.string ⟨#[100, 101, 102, 97, 117, 108, 116]⟩))), (8, 1, (.const (.string ⟨#[100, 101, 108, 101, 116, 101]⟩))), (9, 1, (.const (.string ⟨#[100, 111]⟩))), (10, 1, (.const (.string ⟨#[101, 108, 115, 101]⟩))), (11, 1, (.const (.string ⟨#[101, 110, 117, 109]⟩))), (12, 1, (.const (.string ⟨#[101, 120, 112, 111, 114, 116]⟩))), (13, 1, (.const (.string ⟨#[101, 120, 116, 101, 110, 100, 115]⟩))), (14, 1, (.const (.string ⟨#[102, 97, 108, 115, 101]⟩))), (15, 1, (.const (.string ⟨#[102, 105, 110, 97, 108, 108, 121]⟩))), (16, 1, (.const (.string ⟨#[102, 111, 114]⟩))), (17, 1, (.const (.string ⟨#[102, 117, 110, 99, 116, 105, 111, 110]⟩))), (18, 1, (.const (.string ⟨#[105, 102]⟩))), (19, 1, (.const (.string ⟨#[105, 109, 112, 108, 101, 109, 101, 110, 116, 115]⟩))), (20, 1, (.const (.string ⟨#[105, 109, 112, 111, 114, 116]⟩))), (21, 1, (.const (.string ⟨#[105, 110]⟩))), (22, 1, (.const (.string ⟨#[105, 110, 115, 116, 97, 110, 99, 101, 111, 102]⟩))), (23, 1, (.const (.string ⟨#[105, 110, 116, 101, 114, 102, 97, 99, 101]⟩))), (24, 1, (.const (.string ⟨#[108, 101, 116]⟩))), (25, 1, (.const (.string ⟨#[110, 101, 119]⟩))), (26, 1, (.const (.string ⟨#[110, 117, 108, 108]⟩))), (27, 1, (.const (.string ⟨#[112, 97, 99, 107, 97, 103, 101]⟩))), (28, 1, (.const (.string ⟨#[112, 114, 105, 118, 97, 116, 101]⟩))), (29, 1, (.const (.string ⟨#[112, 114, 111, 116, 101, 99, 116, 101, 100]⟩))), (30, 1, (.const (.string ⟨#[112, 117, 98, 108, 105, 99]⟩))), (31, 1, (.const (.string ⟨#[114, 101, 116, 117, 114, 110]⟩))), (32, 1, (.const (.string ⟨#[115, 116, 97, 116, 105, 99]⟩))), (33, 1, (.const (.string ⟨#[115, 117, 112, 101, 114]⟩))), (34, 1, (.const (.string ⟨#[115, 119, 105, 116, 99, 104]⟩))), (35, 1, (.const (.string ⟨#[116, 104, 105, 115]⟩))), (36, 1, (.const (.string ⟨#[116, 104, 114, 111, 119]⟩))), (37, 1, (.const (.string ⟨#[116, 114, 117, 101]⟩))), (38, 1, (.const (.string ⟨#[116, 114, 121]⟩))), (39, 1, (.const (.string ⟨#[116, 121, 112, 101, 111, 102]⟩))), (40, 1, (.const (.string ⟨#[118, 97, 114]⟩))), (41, 1, (.const (.string ⟨#[118, 111, 105, 100]⟩))), (42, 1, (.const (.string ⟨#[119, 104, 105, 108, 101]⟩))), (43, 1, (.const (.string ⟨#[119, 105, 116, 104]⟩))), (44, 1, (.const (.string ⟨#[121, 105, 101, 108, 100]⟩)))]), none⟩, 
   ⟨(some 0), (.mv (.tmp 1)), none⟩])
  .ret))
theorem c78 {args : Array Value} {h : Heap} {R : Ending → Heap → Prop} (ha : args.size ≤ 2) (hh : aexec Try.prog ac78 (abody [(.slot 0)] R) ⟨initFr args.toList, []⟩ h) : HCalls Try.prog 78 args h R :=
  hcalls_of Try.func78 rfl rfl (by kernel_rfl) (by kernel_rfl) ha hh
/-- 79: credenza/credenzaref07.IsTarget -/
def ac79 : ACode :=
 (.seq (.ops [
  ⟨(some 1), (.box 26 (.tmp 0)), none⟩, 
  ⟨(some 2), (.mv (.const (.bool false))), none⟩])
 (.seq (.ops [
   ⟨(some 3), (.fieldAddr 0 (.tmp 1)), none⟩, 
   ⟨(some 4), (.load1 (.tmp 3)), none⟩, 
   ⟨(some 5), (.bin .eql (.tmp 4) (.const (.int .i64 3))), none⟩, 
   ⟨(some 6), (.mv (.tmp 5)), none⟩, 
   ⟨(some 7), (.fieldAddr 0 (.tmp 1)), (some (6, false))⟩, 
   ⟨(some 8), (.load1 (.tmp 7)), (some (6, false))⟩, 
   ⟨(some 9), (.bin .eql (.tmp 8) (.const (.int .i64 11))), (some (6, false))⟩, 
   ⟨(some 10), (.pick (.tmp 6) (.const (.bool true)) (.tmp 9)), none⟩, 
   ⟨(some 11), (.mv (.tmp 10)), none⟩, 
   ⟨(some 12), (.fieldAddr 0 (.tmp 1)), (some (11, false))⟩, 
   ⟨(some 13), (.load1 (.tmp 12)), (some (11, false))⟩, 
   ⟨(some 14), (.bin .eql (.tmp 13) (.const (.int .i64 12))), (some (11, false))⟩, 
   ⟨(some 15), (.pick (.tmp 11) (.const (.bool true)) (.tmp 14)), none⟩, 
   ⟨(some 2), (.mv (.tmp 15)), none⟩])
  .ret))
theorem c79 {args : Array Value} {h : Heap} {R : Ending → Heap → Prop} (ha : args.size ≤ 16) (hh : aexec Try.prog ac79 (abody [(.slot 2)] R) ⟨initFr args.toList, []⟩ h) : HCalls Try.prog 79 args h R :=
  hcalls_of Try.func79 rfl rfl (by kernel_rfl) (by kernel_rfl) ha hh
/-- 80: credenza/token.letter -/
def ac80 : ACode :=
 (.seq (.ops [
  ⟨(some 2), (.mv (.const (.bool false))), none⟩])
 (.seq (.ops [
   ⟨(some 3), (.mv (.tmp 0)), none⟩, 
   ⟨(some 4), (.bin .or (.tmp 3) (.const (.int .u8 32))), none⟩, 
   ⟨(some 5), (.bin .geq (.tmp 4) (.const (.int .u8 97))), none⟩, 
   ⟨(some 6), (.mv (.tmp 5)), none⟩, 
   ⟨(some 7), (.mv (.tmp 0)), (some (6, true))⟩, 
   ⟨(some 8), (.bin .or (.tmp 7) (.const (.int .u8 32))), (some (6, true))⟩, 
   ⟨(some 9), (.bin .leq (.tmp 8) (.const (.int .u8 122))), (some (6, true))⟩, 
   ⟨(some 10), (.pick (.tmp 6) (.tmp 9) (.const (.bool false))), none⟩, 
   ⟨(some 11), (.mv (.tmp 10)), none⟩, 
   ⟨(some 12), (.mv (.tmp 0)), (some (11, false))⟩, 
   ⟨(some 13), (.bin .eql (.tmp 12) (.const (.int .u8 95))), (some (11, false))⟩, 
   ⟨(some 14), (.pick (.tmp 11) (.const (.bool true)) (.tmp 13)), none⟩, 
   ⟨(some 15), (.mv (.tmp 14)), none⟩, 
   ⟨(some 16), (.mv (.tmp 0)), (some (15, false))⟩, 
   ⟨(some 17), (.bin .eql (.tmp 16) (.const (.int .u8 36))), (some (15, false))⟩, 
   ⟨(some 18), (.pick (.tmp 15) (.const (.bool true)) (.tmp 17)), none⟩, 
   ⟨(some 2), (.mv (.tmp 18)), none⟩])
  .ret))
theorem c80 {args : Array Value} {h : Heap} {R : Ending → Heap → Prop} (ha : args.size ≤ 19) (hh : aexec Try.prog ac80 (abody [(.slot 2)] R) ⟨initFr args.toList, []⟩ h) : HCalls Try.prog 80 args h R :=
  hcalls_of Try.func80 rfl rfl (by kernel_rfl) (by kernel_rfl) ha hh
/-- 81: credenza/token.row -/
def ac81 : ACode :=
 (.seq (.ops [
  ⟨(some 2), (.mv (.const (.int .i64 0))), none⟩])
 (.seq (.seq (.ops [
    ⟨(some 4), (.mv (.tmp 0)), none⟩, 
    ⟨(some 5), (.lenStr (.tmp 4)), none⟩, 
    ⟨(some 6), (.mv (.const (.int .i64 0))), none⟩])
   (.block 0
    (.loop
     (.seq (.ops [
       ⟨(some 7), (.bin .lss (.tmp 6) (.tmp 5)), none⟩])
      (.seq (.cond (.tmp 7)
        .skip
        (.exit 0))
       (.seq (.block 1
         (.seq (.ops [
           ⟨(some 8), (.mv (.tmp 6)), none⟩, 
           ⟨(some 3), (.mv (.tmp 8)), none⟩])
          (.seq (.ops [
            ⟨(some 9), (.mv (.tmp 0)), none⟩, 
            ⟨(some 10), (.mv (.tmp 3)), none⟩, 
            ⟨(some 11), (.idxStr (.tmp 9) (.tmp 10)), none⟩, 
            ⟨(some 12), (.callF 80 [(.tmp 11)]), none⟩, 
            ⟨(some 13), (.un .not (.tmp 12)), none⟩, 
            ⟨(some 14), (.mv (.tmp 13)), none⟩, 
            ⟨(some 15), (.mv (.tmp 0)), (some (14, true))⟩, 
            ⟨(some 16), (.mv (.tmp 3)), (some (14, true))⟩, 
            ⟨(some 17), (.idxStr (.tmp 15) (.tmp 16)), (some (14, true))⟩, 
            ⟨(some 18), (.callF 88 [(.tmp 17)]), (some (14, true))⟩, 
            ⟨(some 19), (.un .not (.tmp 18)), (some (14, true))⟩, 
            ⟨(some 20), (.pick (.tmp 14) (.tmp 19) (.const (.bool false))), none⟩])
           (.cond (.tmp 20)
            (.seq (.ops [
              ⟨(some 21), (.mv (.tmp 3)), none⟩, 
              ⟨(some 2), (.mv (.tmp 21)), none⟩])
             .ret)
            .skip))))
        (.ops [
         ⟨(some 22), (.bin .add (.tmp 6) (.const (.int .i64 1))), none⟩, 
         ⟨(some 6), (.mv (.tmp 22)), none⟩])))))))
  (.seq (.ops [
    ⟨(some 23), (.mv (.tmp 0)), none⟩, 
    ⟨(some 24), (.lenStr (.tmp 23)), none⟩, 
    ⟨(some 2), (.mv (.tmp 24)), none⟩])
   .ret)))
theorem c81 {args : Array Value} {h : Heap} {R : Ending → Heap → Prop} (ha : args.size ≤ 25) (hh : aexec Try.prog ac81 (abody [(.slot 2)] R) ⟨initFr args.toList, []⟩ h) : HCalls Try.prog 81 args h R :=
  hcalls_of Try.func81 rfl rfl (by kernel_rfl) (by kernel_rfl) ha hh
/-- 83: credenza/token.among -/
def ac83 : ACode :=
 (.seq (.ops [
  ⟨(some 4), (.mv (.const (.bool false))), none⟩])
 (.seq (.ops [
   ⟨(some 5), (.mv (.tmp 1)), none⟩, 
   ⟨(some 6), (.bin .neq (.tmp 5) (.const (.string ⟨#[]⟩))), none⟩, 
   ⟨(some 7), (.mv (.tmp 6)), none⟩, 
   ⟨(some 8), (.mv (.tmp 1)), (some (7, true))⟩, 
   ⟨(some 9), (.callF 82 [(.tmp 8), (.const (.string ⟨#[32]⟩))]), (some (7, true))⟩, 
   ⟨(some 10), (.un .not (.tmp 9)), (some (7, true))⟩, 
   ⟨(some 11), (.pick (.tmp 7) (.tmp 10) (.const (.bool false))), none⟩, 
   ⟨(some 12), (.mv (.tmp 11)), none⟩, 
   ⟨(some 13), (.mv (.tmp 0)), (some (12, true))⟩, 
   ⟨(some 14), (.mv (.tmp 1)), (some (12, true))⟩, 
   ⟨(some 15), (.bin .add (.const (.string ⟨#[32]⟩)) (.tmp 14)), (some (12, true))⟩, 
   ⟨(some 16), (.bin .add (.tmp 15) (.const (.string ⟨#[32]⟩))), (some (12, true))⟩, 
   ⟨(some 17), (.callF 82 [(.tmp 13), (.tmp 16)]), (some (12, true))⟩, 
   ⟨(some 18), (.pick (.tmp 12) (.tmp 17) (.const (.bool false))), none⟩, 
   ⟨(some 4), (.mv (.tmp 18)), none⟩])
  .ret))
theorem c83 {args : Array Value} {h : Heap} {R : Ending → Heap → Prop} (ha : args.size ≤ 19) (hh : aexec Try.prog ac83 (abody [(.slot 4)] R) ⟨initFr args.toList, []⟩ h) : HCalls Try.prog 83 args h R :=
  hcalls_of Try.func83 rfl rfl (by kernel_rfl) (by kernel_rfl) ha hh
/-- 85: slices.AppendSeq[[]string,string] -/
def ac85 : ACode :=
 (.seq (.ops [
  ⟨(some 2), (.box 23 (.tmp 0)), none⟩, 
  ⟨(some 4), (.mv (.const (.slice none 0 0))), none⟩])
 (.seq (.seq (.ops [
    ⟨(some 6), (.mv (.tmp 1)), none⟩])
   (.block 0
    (.range (.tmp 6) [7]
     (.ops [
      ⟨(some 5), (.mv (.tmp 7)), none⟩])
     (.block 1
      (.ops [
       ⟨(some 8), (.load1 (.tmp 2)), none⟩, 
       ⟨(some 9), (.mv (.tmp 5)), none⟩, 
       ⟨(some 10), (.buildSlice 9 1 [(.string ⟨#[]⟩)] [(0, 1, (.tmp 9))]), none⟩, 
       ⟨(some 11), (.append 9 1 16 [(.string ⟨#[]⟩)] (.tmp 8) (.tmp 10)), none⟩, 
       ⟨none, (.store1 (.tmp 2) (.tmp 11)), none⟩])))))
  (.seq (.ops [
    ⟨(some 12), (.load1 (.tmp 2)), none⟩, 
    ⟨(some 4), (.mv (.tmp 12)), none⟩])
   .ret)))
theorem c85 {args : Array Value} {h : Heap} {R : Ending → Heap → Prop} (ha : args.size ≤ 13) (hh : aexec Try.prog ac85 (abodyM [(.slot 4)] R) ⟨initFr args.toList, []⟩ h) : HCalls Try.prog 85 args h R :=
  hcalls_of_m Try.func85 rfl rfl (by kernel_rfl) (by kernel_rfl) ha hh
/-- 88: credenza/token.digit -/
def ac88 : ACode :=
 (.seq (.ops [
  ⟨(some 2), (.mv (.const (.bool false))), none⟩])
 (.seq (.ops [
   ⟨(some 3), (.mv (.tmp 0)), none⟩, 
   ⟨(some 4), (.bin .geq (.tmp 3) (.const (.int .u8 48))), none⟩, 
   ⟨(some 5), (.mv (.tmp 4)), none⟩, 
   ⟨(some 6), (.mv (.tmp 0)), (some (5, true))⟩, 
   ⟨(some 7), (.bin .leq (.tmp 6) (.const (.int .u8 57))), (some (5, true))⟩, 
   ⟨(some 8), (.pick (.tmp 5) (.tmp 7) (.const (.bool false))), none⟩, 
   ⟨(some 2), (.mv (.tmp 8)), none⟩])
  .ret))
theorem c88 {args : Array Value} {h : Heap} {R : Ending → Heap → Prop} (ha : args.size ≤ 9) (hh : aexec Try.prog ac88 (abody [(.slot 2)] R) ⟨initFr args.toList, []⟩ h) : HCalls Try.prog 88 args h R :=
  hcalls_of Try.func88 rfl rfl (by kernel_rfl) (by kernel_rfl) ha hh
/-- 98: slices.reverseRangeOrdered[string] -/
def ac98 : ACode :=
 (.seq (.ops [
  ⟨(some 8), (.mv (.tmp 1)), none⟩, 
  ⟨(some 6), (.mv (.tmp 8)), none⟩])
 (.seq (.ops [
   ⟨(some 9), (.mv (.tmp 2)), none⟩, 
   ⟨(some 10), (.bin .sub (.tmp 9) (.const (.int .i64 1))), none⟩, 
   ⟨(some 7), (.mv (.tmp 10)), none⟩])
  (.block 0
   (.loop
    (.seq (.seq (.ops [
       ⟨(some 11), (.mv (.tmp 6)), none⟩, 
       ⟨(some 12), (.mv (.tmp 7)), none⟩, 
       ⟨(some 13), (.bin .lss (.tmp 11) (.tmp 12)), none⟩])
      (.cond (.tmp 13)
       .skip
       (.exit 0)))
     (.block 1
      (.seq (.any [14, 15, 16, 17, 18, 19, 20, 21, 22, 23, 24, 25, 26, 27] [
        ⟨(some 14), (.mv (.tmp 0)), none⟩, 
        ⟨(some 15), (.mv (.tmp 6)), none⟩, 
        ⟨(some 16), (.mv (.tmp 0)), none⟩, 
        ⟨(some 17), (.mv (.tmp 7)), none⟩, 
        ⟨(some 18), (.mv (.tmp 0)), none⟩, 
        ⟨(some 19), (.mv (.tmp 7)), none⟩, 
        ⟨(some 20), (.idxSl 1 (.tmp 18) (.tmp 19)), none⟩, 
        ⟨(some 21), (.load1 (.tmp 20)), none⟩, 
        ⟨(some 22), (.mv (.tmp 0)), none⟩, 
        ⟨(some 23), (.mv (.tmp 6)), none⟩, 
        ⟨(some 24), (.idxSl 1 (.tmp 22) (.tmp 23)), none⟩, 
        ⟨(some 25), (.load1 (.tmp 24)), none⟩, 
        ⟨(some 26), (.idxSl 1 (.tmp 14) (.tmp 15)), none⟩, 
        ⟨none, (.store1 (.tmp 26) (.tmp 21)), none⟩, 
        ⟨(some 27), (.idxSl 1 (.tmp 16) (.tmp 17)), none⟩, 
        ⟨none, (.store1 (.tmp 27) (.tmp 25)), none⟩])
       (.seq (.ops [
         ⟨(some 28), (.mv (.tmp 6)), none⟩, 
         ⟨(some 29), (.bin .add (.tmp 28) (.const (.int .i64 1))), none⟩, 
         ⟨(some 6), (.mv (.tmp 29)), none⟩])
        (.ops [
         ⟨(some 30), (.mv (.tmp 7)), none⟩, 
         ⟨(some 31), (.bin .sub (.tmp 30) (.const (.int .i64 1))), none⟩, 
         ⟨(some 7), (.mv (.tmp 31)), none⟩])))))))))
theorem c98 {args : Array Value} {h : Heap} {R : Ending → Heap → Prop} (ha : args.size ≤ 32) (hh : aexec Try.prog ac98 (abody [] R) ⟨initFr args.toList, []⟩ h) : HCalls Try.prog 98 args h R :=
  hcalls_of Try.func98 rfl rfl (by kernel_rfl) (by kernel_rfl) ha hh
/-- 99: slices.partialInsertionSortOrdered[string] -/
def ac99 : ACode :=
 (.seq (.ops [
  ⟨(some 6), (.mv (.const (.bool false))), none⟩])
 (.seq (.ops [
   ⟨(some 11), (.mv (.tmp 1)), none⟩, 
   ⟨(some 12), (.bin .add (.tmp 11) (.const (.int .i64 1))), none⟩, 
   ⟨(some 7), (.mv (.tmp 12)), none⟩])
  (.seq (.seq (.ops [
     ⟨(some 8), (.mv (.const (.int .i64 0))), none⟩])
    (.block 0
     (.loop
      (.seq (.seq (.ops [
         ⟨(some 13), (.mv (.tmp 8)), none⟩, 
         ⟨(some 14), (.bin .lss (.tmp 13) (.const (.int .i64 5))), none⟩])
        (.cond (.tmp 14)
         .skip
         (.exit 0)))
       (.seq (.block 1
         (.seq (.block 2
           (.loop
            (.seq (.seq (.any [17, 18, 19, 20, 21, 22, 23, 24, 25, 26, 27, 28, 29, 30, 31, 32] [
               ⟨(some 17), (.mv (.tmp 7)), none⟩, 
               ⟨(some 18), (.mv (.tmp 2)), none⟩, 
               ⟨(some 19), (.bin .lss (.tmp 17) (.tmp 18)), none⟩, 
               ⟨(some 20), (.mv (.tmp 19)), none⟩, 
               ⟨(some 21), (.mv (.tmp 0)), (some (20, true))⟩, 
               ⟨(some 22), (.mv (.tmp 7)), (some (20, true))⟩, 
               ⟨(some 23), (.idxSl 1 (.tmp 21) (.tmp 22)), (some (20, true))⟩, 
               ⟨(some 24), (.load1 (.tmp 23)), (some (20, true))⟩, 
               ⟨(some 25), (.mv (.tmp 0)), (some (20, true))⟩, 
               ⟨(some 26), (.mv (.tmp 7)), (some (20, true))⟩, 
               ⟨(some 27), (.bin .sub (.tmp 26) (.const (.int .i64 1))), (some (20, true))⟩, 
               ⟨(some 28), (.idxSl 1 (.tmp 25) (.tmp 27)), (some (20, true))⟩, 
               ⟨(some 29), (.load1 (.tmp 28)), (some (20, true))⟩, 
               ⟨(some 30), (.callF 100 [(.tmp 24), (.tmp 29)]), (some (20, true))⟩, 
               ⟨(some 31), (.un .not (.tmp 30)), (some (20, true))⟩, 
               ⟨(some 32), (.pick (.tmp 20) (.tmp 31) (.const (.bool false))), none⟩])
              (.cond (.tmp 32)
               .skip
               (.exit 2)))
             (.block 3
              (.ops [
               ⟨(some 33), (.mv (.tmp 7)), none⟩, 
               ⟨(some 34), (.bin .add (.tmp 33) (.const (.int .i64 1))), none⟩, 
               ⟨(some 7), (.mv (.tmp 34)), none⟩])))))
          (.seq (.seq (.ops [
             ⟨(some 35), (.mv (.tmp 7)), none⟩, 
             ⟨(some 36), (.mv (.tmp 2)), none⟩, 
             ⟨(some 37), (.bin .eql (.tmp 35) (.tmp 36)), none⟩])
            (.cond (.tmp 37)
             (.seq (.ops [
               ⟨(some 6), (.mv (.const (.bool true))), none⟩])
              .ret)
             .skip))
           (.seq (.seq (.ops [
              ⟨(some 38), (.mv (.tmp 2)), none⟩, 
              ⟨(some 39), (.mv (.tmp 1)), none⟩, 
              ⟨(some 40), (.bin .sub (.tmp 38) (.tmp 39)), none⟩, 
              ⟨(some 41), (.bin .lss (.tmp 40) (.const (.int .i64 50))), none⟩])
             (.cond (.tmp 41)
              (.seq (.ops [
                ⟨(some 6), (.mv (.const (.bool false))), none⟩])
               .ret)
              .skip))
            (.seq (.any [42, 43, 44, 45, 46, 47, 48, 49, 50, 51, 52, 53, 54, 55, 56, 57] [
              ⟨(some 42), (.mv (.tmp 0)), none⟩, 
              ⟨(some 43), (.mv (.tmp 7)), none⟩, 
              ⟨(some 44), (.mv (.tmp 0)), none⟩, 
              ⟨(some 45), (.mv (.tmp 7)), none⟩, 
              ⟨(some 46), (.bin .sub (.tmp 45) (.const (.int .i64 1))), none⟩, 
              ⟨(some 47), (.mv (.tmp 0)), none⟩, 
              ⟨(some 48), (.mv (.tmp 7)), none⟩, 
              ⟨(some 49), (.bin .sub (.tmp 48) (.const (.int .i64 1))), none⟩, 
              ⟨(some 50), (.idxSl 1 (.tmp 47) (.tmp 49)), none⟩, 
              ⟨(some 51), (.load1 (.tmp 50)), none⟩, 
              ⟨(some 52), (.mv (.tmp 0)), none⟩, 
              ⟨(some 53), (.mv (.tmp 7)), none⟩, 
              ⟨(some 54), (.idxSl 1 (.tmp 52) (.tmp 53)), none⟩, 
              ⟨(some 55), (.load1 (.tmp 54)), none⟩, 
              ⟨(some 56), (.idxSl 1 (.tmp 42) (.tmp 43)), none⟩, 
              ⟨none, (.store1 (.tmp 56) (.tmp 51)), none⟩, 
              ⟨(some 57), (.idxSl 1 (.tmp 44) (.tmp 46)), none⟩, 
              ⟨none, (.store1 (.tmp 57) (.tmp 55)), none⟩])
             (.seq (.seq (.ops [
                ⟨(some 58), (.mv (.tmp 7)), none⟩, 
                ⟨(some 59), (.mv (.tmp 1)), none⟩, 
                ⟨(some 60), (.bin .sub (.tmp 58) (.tmp 59)), none⟩, 
                ⟨(some 61), (.bin .geq (.tmp 60) (.const (.int .i64 2))), none⟩])
               (.cond (.tmp 61)
                (.seq (.ops [
                  ⟨(some 62), (.mv (.tmp 7)), none⟩, 
                  ⟨(some 63), (.bin .sub (.tmp 62) (.const (.int .i64 1))), none⟩, 
                  ⟨(some 9), (.mv (.tmp 63)), none⟩])
                 (.block 4
                  (.loop
                   (.seq (.seq (.ops [
                      ⟨(some 64), (.mv (.tmp 9)), none⟩, 
                      ⟨(some 65), (.bin .geq (.tmp 64) (.const (.int .i64 1))), none⟩])
                     (.cond (.tmp 65)
                      .skip
                      (.exit 4)))
                    (.seq (.block 5
                      (.seq (.seq (.any [68, 69, 70, 71, 72, 73, 74, 75, 76, 77, 78] [
                         ⟨(some 68), (.mv (.tmp 0)), none⟩, 
                         ⟨(some 69), (.mv (.tmp 9)), none⟩, 
                         ⟨(some 70), (.idxSl 1 (.tmp 68) (.tmp 69)), none⟩, 
                         ⟨(some 71), (.load1 (.tmp 70)), none⟩, 
                         ⟨(some 72), (.mv (.tmp 0)), none⟩, 
                         ⟨(some 73), (.mv (.tmp 9)), none⟩, 
                         ⟨(some 74), (.bin .sub (.tmp 73) (.const (.int .i64 1))), none⟩, 
                         ⟨(some 75), (.idxSl 1 (.tmp 72) (.tmp 74)), none⟩, 
                         ⟨(some 76), (.load1 (.tmp 75)), none⟩, 
                         ⟨(some 77), (.callF 100 [(.tmp 71), (.tmp 76)]), none⟩, 
                         ⟨(some 78), (.un .not (.tmp 77)), none⟩])
                        (.cond (.tmp 78)
                         (.exit 4)
                         .skip))
                       (.any [79, 80, 81, 82, 83, 84, 85, 86, 87, 88, 89, 90, 91, 92, 93, 94] [
                        ⟨(some 79), (.mv (.tmp 0)), none⟩, 
                        ⟨(some 80), (.mv (.tmp 9)), none⟩, 
                        ⟨(some 81), (.mv (.tmp 0)), none⟩, 
                        ⟨(some 82), (.mv (.tmp 9)), none⟩, 
                        ⟨(some 83), (.bin .sub (.tmp 82) (.const (.int .i64 1))), none⟩, 
                        ⟨(some 84), (.mv (.tmp 0)), none⟩, 
                        ⟨(some 85), (.mv (.tmp 9)), none⟩, 
                        ⟨(some 86), (.bin .sub (.tmp 85) (.const (.int .i64 1))), none⟩, 
                        ⟨(some 87), (.idxSl 1 (.tmp 84) (.tmp 86)), none⟩, 
                        ⟨(some 88), (.load1 (.tmp 87)), none⟩, 
                        ⟨(some 89), (.mv (.tmp 0)), none⟩, 
                        ⟨(some 90), (.mv (.tmp 9)), none⟩, 
                        ⟨(some 91), (.idxSl 1 (.tmp 89) (.tmp 90)), none⟩, 
                        ⟨(some 92), (.load1 (.tmp 91)), none⟩, 
                        ⟨(some 93), (.idxSl 1 (.tmp 79) (.tmp 80)), none⟩, 
                        ⟨none, (.store1 (.tmp 93) (.tmp 88)), none⟩, 
                        ⟨(some 94), (.idxSl 1 (.tmp 81) (.tmp 83)), none⟩, 
                        ⟨none, (.store1 (.tmp 94) (.tmp 92)), none⟩])))
                     (.ops [
                      ⟨(some 66), (.mv (.tmp 9)), none⟩, 
                      ⟨(some 67), (.bin .sub (.tmp 66) (.const (.int .i64 1))), none⟩, 
                      ⟨(some 9), (.mv (.tmp 67)), none⟩]))))))
                .skip))
              (.seq (.ops [
                ⟨(some 95), (.mv (.tmp 2)), none⟩, 
                ⟨(some 96), (.mv (.tmp 7)), none⟩, 
                ⟨(some 97), (.bin .sub (.tmp 95) (.tmp 96)), none⟩, 
                ⟨(some 98), (.bin .geq (.tmp 97) (.const (.int .i64 2))), none⟩])
               (.cond (.tmp 98)
                (.seq (.ops [
                  ⟨(some 99), (.mv (.tmp 7)), none⟩, 
                  ⟨(some 100), (.bin .add (.tmp 99) (.const (.int .i64 1))), none⟩, 
                  ⟨(some 10), (.mv (.tmp 100)), none⟩])
                 (.block 6
                  (.loop
                   (.seq (.seq (.ops [
                      ⟨(some 101), (.mv (.tmp 10)), none⟩, 
                      ⟨(some 102), (.mv (.tmp 2)), none⟩, 
                      ⟨(some 103), (.bin .lss (.tmp 101) (.tmp 102)), none⟩])
                     (.cond (.tmp 103)
                      .skip
                      (.exit 6)))
                    (.seq (.block 7
                      (.seq (.seq (.any [106, 107, 108, 109, 110, 111, 112, 113, 114, 115, 116] [
                         ⟨(some 106), (.mv (.tmp 0)), none⟩, 
                         ⟨(some 107), (.mv (.tmp 10)), none⟩, 
                         ⟨(some 108), (.idxSl 1 (.tmp 106) (.tmp 107)), none⟩, 
                         ⟨(some 109), (.load1 (.tmp 108)), none⟩, 
                         ⟨(some 110), (.mv (.tmp 0)), none⟩, 
                         ⟨(some 111), (.mv (.tmp 10)), none⟩, 
                         ⟨(some 112), (.bin .sub (.tmp 111) (.const (.int .i64 1))), none⟩, 
                         ⟨(some 113), (.idxSl 1 (.tmp 110) (.tmp 112)), none⟩, 
                         ⟨(some 114), (.load1 (.tmp 113)), none⟩, 
                         ⟨(some 115), (.callF 100 [(.tmp 109), (.tmp 114)]), none⟩, 
                         ⟨(some 116), (.un .not (.tmp 115)), none⟩])
                        (.cond (.tmp 116)
                         (.exit 6)
                         .skip))
                       (.any [117, 118, 119, 120, 121, 122, 123, 124, 125, 126, 127, 128, 129, 130, 131, 132] [
                        ⟨(some 117), (.mv (.tmp 0)), none⟩, 
                        ⟨(some 118), (.mv (.tmp 10)), none⟩, 
                        ⟨(some 119), (.mv (.tmp 0)), none⟩, 
                        ⟨(some 120), (.mv (.tmp 10)), none⟩, 
                        ⟨(some 121), (.bin .sub (.tmp 120) (.const (.int .i64 1))), none⟩, 
                        ⟨(some 122), (.mv (.tmp 0)), none⟩, 
                        ⟨(some 123), (.mv (.tmp 10)), none⟩, 
                        ⟨(some 124), (.bin .sub (.tmp 123) (.const (.int .i64 1))), none⟩, 
                        ⟨(some 125), (.idxSl 1 (.tmp 122) (.tmp 124)), none⟩, 
                        ⟨(some 126), (.load1 (.tmp 125)), none⟩, 
                        ⟨(some 127), (.mv (.tmp 0)), none⟩, 
                        ⟨(some 128), (.mv (.tmp 10)), none⟩, 
                        ⟨(some 129), (.idxSl 1 (.tmp 127) (.tmp 128)), none⟩, 
                        ⟨(some 130), (.load1 (.tmp 129)), none⟩, 
                        ⟨(some 131), (.idxSl 1 (.tmp 117) (.tmp 118)), none⟩, 
                        ⟨none, (.store1 (.tmp 131) (.tmp 126)), none⟩, 
                        ⟨(some 132), (.idxSl 1 (.tmp 119) (.tmp 121)), none⟩, 
                        ⟨none, (.store1 (.tmp 132) (.tmp 130)), none⟩])))
                     (.ops [
                      ⟨(some 104), (.mv (.tmp 10)), none⟩, 
                      ⟨(some 105), (.bin .add (.tmp 104) (.const (.int .i64 1))), none⟩, 
                      ⟨(some 10), (.mv (.tmp 105)), none⟩]))))))
                .skip))))))))
        (.ops [
         ⟨(some 15), (.mv (.tmp 8)), none⟩, 
         ⟨(some 16), (.bin .add (.tmp 15) (.const (.int .i64 1))), none⟩, 
         ⟨(some 8), (.mv (.tmp 16)), none⟩]))))))
   (.seq (.ops [
     ⟨(some 6), (.mv (.const (.bool false))), none⟩])
    .ret))))
theorem c99 {args : Array Value} {h : Heap} {R : Ending → Heap → Prop} (ha : args.size ≤ 133) (hh : aexec Try.prog ac99 (abody [(.slot 6)] R) ⟨initFr args.toList, []⟩ h) : HCalls Try.prog 99 args h R :=
  hcalls_of Try.func99 rfl rfl (by kernel_rfl) (by kernel_rfl) ha hh
/-- 100: cmp.Less[string] -/
def ac100 : ACode :=
 (.seq (.ops [
  ⟨(some 4), (.mv (.const (.bool false))), none⟩])
 (.seq (.ops [
   ⟨(some 5), (.mv (.tmp 0)), none⟩, 
   ⟨(some 6), (.callF 112 [(.tmp 5)]), none⟩, 
   ⟨(some 7), (.mv (.tmp 6)), none⟩, 
   ⟨(some 8), (.mv (.tmp 1)), (some (7, true))⟩, 
   ⟨(some 9), (.callF 112 [(.tmp 8)]), (some (7, true))⟩, 
   ⟨(some 10), (.un .not (.tmp 9)), (some (7, true))⟩, 
   ⟨(some 11), (.pick (.tmp 7) (.tmp 10) (.const (.bool false))), none⟩, 
   ⟨(some 12), (.mv (.tmp 11)), none⟩, 
   ⟨(some 13), (.mv (.tmp 0)), (some (12, false))⟩, 
   ⟨(some 14), (.mv (.tmp 1)), (some (12, false))⟩, 
   ⟨(some 15), (.bin .lss (.tmp 13) (.tmp 14)), (some (12, false))⟩, 
   ⟨(some 16), (.pick (.tmp 12) (.const (.bool true)) (.tmp 15)), none⟩, 
   ⟨(some 4), (.mv (.tmp 16)), none⟩])
  .ret))
theorem c100 {args : Array Value} {h : Heap} {R : Ending → Heap → Prop} (ha : args.size ≤ 17) (hh : aexec Try.prog ac100 (abody [(.slot 4)] R) ⟨initFr args.toList, []⟩ h) : HCalls Try.prog 100 args h R :=
  hcalls_of Try.func100 rfl rfl (by kernel_rfl) (by kernel_rfl) ha hh
/-- 101: slices.partitionEqualOrdered[string] -/
def ac101 : ACode :=
 (.seq (.ops [
  ⟨(some 8), (.mv (.const (.int .i64 0))), none⟩])
 (.seq (.any [11, 12, 13, 14, 15, 16, 17, 18, 19, 20, 21, 22, 23, 24] [
   ⟨(some 11), (.mv (.tmp 0)), none⟩, 
   ⟨(some 12), (.mv (.tmp 1)), none⟩, 
   ⟨(some 13), (.mv (.tmp 0)), none⟩, 
   ⟨(some 14), (.mv (.tmp 3)), none⟩, 
   ⟨(some 15), (.mv (.tmp 0)), none⟩, 
   ⟨(some 16), (.mv (.tmp 3)), none⟩, 
   ⟨(some 17), (.idxSl 1 (.tmp 15) (.tmp 16)), none⟩, 
   ⟨(some 18), (.load1 (.tmp 17)), none⟩, 
   ⟨(some 19), (.mv (.tmp 0)), none⟩, 
   ⟨(some 20), (.mv (.tmp 1)), none⟩, 
   ⟨(some 21), (.idxSl 1 (.tmp 19) (.tmp 20)), none⟩, 
   ⟨(some 22), (.load1 (.tmp 21)), none⟩, 
   ⟨(some 23), (.idxSl 1 (.tmp 11) (.tmp 12)), none⟩, 
   ⟨none, (.store1 (.tmp 23) (.tmp 18)), none⟩, 
   ⟨(some 24), (.idxSl 1 (.tmp 13) (.tmp 14)), none⟩, 
   ⟨none, (.store1 (.tmp 24) (.tmp 22)), none⟩])
  (.seq (.ops [
    ⟨(some 25), (.mv (.tmp 1)), none⟩, 
    ⟨(some 26), (.bin .add (.tmp 25) (.const (.int .i64 1))), none⟩, 
    ⟨(some 27), (.mv (.tmp 2)), none⟩, 
    ⟨(some 28), (.bin .sub (.tmp 27) (.const (.int .i64 1))), none⟩, 
    ⟨(some 9), (.mv (.tmp 26)), none⟩, 
    ⟨(some 10), (.mv (.tmp 28)), none⟩])
   (.seq (.block 0
     (.loop
      (.block 1
       (.seq (.block 2
         (.loop
          (.seq (.seq (.any [29, 30, 31, 32, 33, 34, 35, 36, 37, 38, 39, 40, 41, 42, 43] [
             ⟨(some 29), (.mv (.tmp 9)), none⟩, 
             ⟨(some 30), (.mv (.tmp 10)), none⟩, 
             ⟨(some 31), (.bin .leq (.tmp 29) (.tmp 30)), none⟩, 
             ⟨(some 32), (.mv (.tmp 31)), none⟩, 
             ⟨(some 33), (.mv (.tmp 0)), (some (32, true))⟩, 
             ⟨(some 34), (.mv (.tmp 1)), (some (32, true))⟩, 
             ⟨(some 35), (.idxSl 1 (.tmp 33) (.tmp 34)), (some (32, true))⟩, 
             ⟨(some 36), (.load1 (.tmp 35)), (some (32, true))⟩, 
             ⟨(some 37), (.mv (.tmp 0)), (some (32, true))⟩, 
             ⟨(some 38), (.mv (.tmp 9)), (some (32, true))⟩, 
             ⟨(some 39), (.idxSl 1 (.tmp 37) (.tmp 38)), (some (32, true))⟩, 
             ⟨(some 40), (.load1 (.tmp 39)), (some (32, true))⟩, 
             ⟨(some 41), (.callF 100 [(.tmp 36), (.tmp 40)]), (some (32, true))⟩, 
             ⟨(some 42), (.un .not (.tmp 41)), (some (32, true))⟩, 
             ⟨(some 43), (.pick (.tmp 32) (.tmp 42) (.const (.bool false))), none⟩])
            (.cond (.tmp 43)
             .skip
             (.exit 2)))
           (.block 3
            (.ops [
             ⟨(some 44), (.mv (.tmp 9)), none⟩, 
             ⟨(some 45), (.bin .add (.tmp 44) (.const (.int .i64 1))), none⟩, 
             ⟨(some 9), (.mv (.tmp 45)), none⟩])))))
        (.seq (.block 4
          (.loop
           (.seq (.seq (.any [46, 47, 48, 49, 50, 51, 52, 53, 54, 55, 56, 57, 58, 59] [
              ⟨(some 46), (.mv (.tmp 9)), none⟩, 
              ⟨(some 47), (.mv (.tmp 10)), none⟩, 
              ⟨(some 48), (.bin .leq (.tmp 46) (.tmp 47)), none⟩, 
              ⟨(some 49), (.mv (.tmp 48)), none⟩, 
              ⟨(some 50), (.mv (.tmp 0)), (some (49, true))⟩, 
              ⟨(some 51), (.mv (.tmp 1)), (some (49, true))⟩, 
              ⟨(some 52), (.idxSl 1 (.tmp 50) (.tmp 51)), (some (49, true))⟩, 
              ⟨(some 53), (.load1 (.tmp 52)), (some (49, true))⟩, 
              ⟨(some 54), (.mv (.tmp 0)), (some (49, true))⟩, 
              ⟨(some 55), (.mv (.tmp 10)), (some (49, true))⟩, 
              ⟨(some 56), (.idxSl 1 (.tmp 54) (.tmp 55)), (some (49, true))⟩, 
              ⟨(some 57), (.load1 (.tmp 56)), (some (49, true))⟩, 
              ⟨(some 58), (.callF 100 [(.tmp 53), (.tmp 57)]), (some (49, true))⟩, 
              ⟨(some 59), (.pick (.tmp 49) (.tmp 58) (.const (.bool false))), none⟩])
             (.cond (.tmp 59)
              .skip
              (.exit 4)))
            (.block 5
             (.ops [
              ⟨(some 60), (.mv (.tmp 10)), none⟩, 
              ⟨(some 61), (.bin .sub (.tmp 60) (.const (.int .i64 1))), none⟩, 
              ⟨(some 10), (.mv (.tmp 61)), none⟩])))))
         (.seq (.seq (.ops [
            ⟨(some 62), (.mv (.tmp 9)), none⟩, 
            ⟨(some 63), (.mv (.tmp 10)), none⟩, 
            ⟨(some 64), (.bin .gtr (.tmp 62) (.tmp 63)), none⟩])
           (.cond (.tmp 64)
            (.exit 0)
            .skip))
          (.seq (.any [65, 66, 67, 68, 69, 70, 71, 72, 73, 74, 75, 76, 77, 78] [
            ⟨(some 65), (.mv (.tmp 0)), none⟩, 
            ⟨(some 66), (.mv (.tmp 9)), none⟩, 
            ⟨(some 67), (.mv (.tmp 0)), none⟩, 
            ⟨(some 68), (.mv (.tmp 10)), none⟩, 
            ⟨(some 69), (.mv (.tmp 0)), none⟩, 
            ⟨(some 70), (.mv (.tmp 10)), none⟩, 
            ⟨(some 71), (.idxSl 1 (.tmp 69) (.tmp 70)), none⟩, 
            ⟨(some 72), (.load1 (.tmp 71)), none⟩, 
            ⟨(some 73), (.mv (.tmp 0)), none⟩, 
            ⟨(some 74), (.mv (.tmp 9)), none⟩, 
            ⟨(some 75), (.idxSl 1 (.tmp 73) (.tmp 74)), none⟩, 
            ⟨(some 76), (.load1 (.tmp 75)), none⟩, 
            ⟨(some 77), (.idxSl 1 (.tmp 65) (.tmp 66)), none⟩, 
            ⟨none, (.store1 (.tmp 77) (.tmp 72)), none⟩, 
            ⟨(some 78), (.idxSl 1 (.tmp 67) (.tmp 68)), none⟩, 
            ⟨none, (.store1 (.tmp 78) (.tmp 76)), none⟩])
           (.seq (.ops [
             ⟨(some 79), (.mv (.tmp 9)), none⟩, 
             ⟨(some 80), (.bin .add (.tmp 79) (.const (.int .i64 1))), none⟩, 
             ⟨(some 9), (.mv (.tmp 80)), none⟩])
            (.ops [
             ⟨(some 81), (.mv (.tmp 10)), none⟩, 
             ⟨(some 82), (.bin .sub (.tmp 81) (.const (.int .i64 1))), none⟩, 
             ⟨(some 10), (.mv (.tmp 82)), none⟩])))))))))
    (.seq (.ops [
      ⟨(some 83), (.mv (.tmp 9)), none⟩, 
      ⟨(some 8), (.mv (.tmp 83)), none⟩])
     .ret)))))
theorem c101 {args : Array Value} {h : Heap} {R : Ending → Heap → Prop} (ha : args.size ≤ 84) (hh : aexec Try.prog ac101 (abody [(.slot 8)] R) ⟨initFr args.toList, []⟩ h) : HCalls Try.prog 101 args h R :=
  hcalls_of Try.func101 rfl rfl (by kernel_rfl) (by kernel_rfl) ha hh
/-- 102: slices.partitionOrdered[string] -/
def ac102 : ACode :=
 (.seq (.ops [
  ⟨(some 8), (.mv (.const (.int .i64 0))), none⟩, 
  ⟨(some 9), (.mv (.const (.bool false))), none⟩])
 (.seq (.any [12, 13, 14, 15, 16, 17, 18, 19, 20, 21, 22, 23, 24, 25] [
   ⟨(some 12), (.mv (.tmp 0)), none⟩, 
   ⟨(some 13), (.mv (.tmp 1)), none⟩, 
   ⟨(some 14), (.mv (.tmp 0)), none⟩, 
   ⟨(some 15), (.mv (.tmp 3)), none⟩, 
   ⟨(some 16), (.mv (.tmp 0)), none⟩, 
   ⟨(some 17), (.mv (.tmp 3)), none⟩, 
   ⟨(some 18), (.idxSl 1 (.tmp 16) (.tmp 17)), none⟩, 
   ⟨(some 19), (.load1 (.tmp 18)), none⟩, 
   ⟨(some 20), (.mv (.tmp 0)), none⟩, 
   ⟨(some 21), (.mv (.tmp 1)), none⟩, 
   ⟨(some 22), (.idxSl 1 (.tmp 20) (.tmp 21)), none⟩, 
   ⟨(some 23), (.load1 (.tmp 22)), none⟩, 
   ⟨(some 24), (.idxSl 1 (.tmp 12) (.tmp 13)), none⟩, 
   ⟨none, (.store1 (.tmp 24) (.tmp 19)), none⟩, 
   ⟨(some 25), (.idxSl 1 (.tmp 14) (.tmp 15)), none⟩, 
   ⟨none, (.store1 (.tmp 25) (.tmp 23)), none⟩])
  (.seq (.ops [
    ⟨(some 26), (.mv (.tmp 1)), none⟩, 
    ⟨(some 27), (.bin .add (.tmp 26) (.const (.int .i64 1))), none⟩, 
    ⟨(some 28), (.mv (.tmp 2)), none⟩, 
    ⟨(some 29), (.bin .sub (.tmp 28) (.const (.int .i64 1))), none⟩, 
    ⟨(some 10), (.mv (.tmp 27)), none⟩, 
    ⟨(some 11), (.mv (.tmp 29)), none⟩])
   (.seq (.block 0
     (.loop
      (.seq (.seq (.any [30, 31, 32, 33, 34, 35, 36, 37, 38, 39, 40, 41, 42, 43] [
         ⟨(some 30), (.mv (.tmp 10)), none⟩, 
         ⟨(some 31), (.mv (.tmp 11)), none⟩, 
         ⟨(some 32), (.bin .leq (.tmp 30) (.tmp 31)), none⟩, 
         ⟨(some 33), (.mv (.tmp 32)), none⟩, 
         ⟨(some 34), (.mv (.tmp 0)), (some (33, true))⟩, 
         ⟨(some 35), (.mv (.tmp 10)), (some (33, true))⟩, 
         ⟨(some 36), (.idxSl 1 (.tmp 34) (.tmp 35)), (some (33, true))⟩, 
         ⟨(some 37), (.load1 (.tmp 36)), (some (33, true))⟩, 
         ⟨(some 38), (.mv (.tmp 0)), (some (33, true))⟩, 
         ⟨(some 39), (.mv (.tmp 1)), (some (33, true))⟩, 
         ⟨(some 40), (.idxSl 1 (.tmp 38) (.tmp 39)), (some (33, true))⟩, 
         ⟨(some 41), (.load1 (.tmp 40)), (some (33, true))⟩, 
         ⟨(some 42), (.callF 100 [(.tmp 37), (.tmp 41)]), (some (33, true))⟩, 
         ⟨(some 43), (.pick (.tmp 33) (.tmp 42) (.const (.bool false))), none⟩])
        (.cond (.tmp 43)
         .skip
         (.exit 0)))
       (.block 1
        (.ops [
         ⟨(some 44), (.mv (.tmp 10)), none⟩, 
         ⟨(some 45), (.bin .add (.tmp 44) (.const (.int .i64 1))), none⟩, 
         ⟨(some 10), (.mv (.tmp 45)), none⟩])))))
    (.seq (.block 2
      (.loop
       (.seq (.seq (.any [46, 47, 48, 49, 50, 51, 52, 53, 54, 55, 56, 57, 58, 59, 60] [
          ⟨(some 46), (.mv (.tmp 10)), none⟩, 
          ⟨(some 47), (.mv (.tmp 11)), none⟩, 
          ⟨(some 48), (.bin .leq (.tmp 46) (.tmp 47)), none⟩, 
          ⟨(some 49), (.mv (.tmp 48)), none⟩, 
          ⟨(some 50), (.mv (.tmp 0)), (some (49, true))⟩, 
          ⟨(some 51), (.mv (.tmp 11)), (some (49, true))⟩, 
          ⟨(some 52), (.idxSl 1 (.tmp 50) (.tmp 51)), (some (49, true))⟩, 
          ⟨(some 53), (.load1 (.tmp 52)), (some (49, true))⟩, 
          ⟨(some 54), (.mv (.tmp 0)), (some (49, true))⟩, 
          ⟨(some 55), (.mv (.tmp 1)), (some (49, true))⟩, 
          ⟨(some 56), (.idxSl 1 (.tmp 54) (.tmp 55)), (some (49, true))⟩, 
          ⟨(some 57), (.load1 (.tmp 56)), (some (49, true))⟩, 
          ⟨(some 58), (.callF 100 [(.tmp 53), (.tmp 57)]), (some (49, true))⟩, 
          ⟨(some 59), (.un .not (.tmp 58)), (some (49, true))⟩, 
          ⟨(some 60), (.pick (.tmp 49) (.tmp 59) (.const (.bool false))), none⟩])
         (.cond (.tmp 60)
          .skip
          (.exit 2)))
        (.block 3
         (.ops [
          ⟨(some 61), (.mv (.tmp 11)), none⟩, 
          ⟨(some 62), (.bin .sub (.tmp 61) (.const (.int .i64 1))), none⟩, 
          ⟨(some 11), (.mv (.tmp 62)), none⟩])))))
     (.seq (.seq (.ops [
        ⟨(some 63), (.mv (.tmp 10)), none⟩, 
        ⟨(some 64), (.mv (.tmp 11)), none⟩, 
        ⟨(some 65), (.bin .gtr (.tmp 63) (.tmp 64)), none⟩])
       (.cond (.tmp 65)
        (.seq (.any [66, 67, 68, 69, 70, 71, 72, 73, 74, 75, 76, 77, 78, 79] [
          ⟨(some 66), (.mv (.tmp 0)), none⟩, 
          ⟨(some 67), (.mv (.tmp 11)), none⟩, 
          ⟨(some 68), (.mv (.tmp 0)), none⟩, 
          ⟨(some 69), (.mv (.tmp 1)), none⟩, 
          ⟨(some 70), (.mv (.tmp 0)), none⟩, 
          ⟨(some 71), (.mv (.tmp 1)), none⟩, 
          ⟨(some 72), (.idxSl 1 (.tmp 70) (.tmp 71)), none⟩, 
          ⟨(some 73), (.load1 (.tmp 72)), none⟩, 
          ⟨(some 74), (.mv (.tmp 0)), none⟩, 
          ⟨(some 75), (.mv (.tmp 11)), none⟩, 
          ⟨(some 76), (.idxSl 1 (.tmp 74) (.tmp 75)), none⟩, 
          ⟨(some 77), (.load1 (.tmp 76)), none⟩, 
          ⟨(some 78), (.idxSl 1 (.tmp 66) (.tmp 67)), none⟩, 
          ⟨none, (.store1 (.tmp 78) (.tmp 73)), none⟩, 
          ⟨(some 79), (.idxSl 1 (.tmp 68) (.tmp 69)), none⟩, 
          ⟨none, (.store1 (.tmp 79) (.tmp 77)), none⟩])
         (.seq (.ops [
           ⟨(some 80), (.mv (.tmp 11)), none⟩, 
           ⟨(some 8), (.mv (.tmp 80)), none⟩, 
           ⟨(some 9), (.mv (.const (.bool true))), none⟩])
          .ret))
        .skip))
      (.seq (.any [81, 82, 83, 84, 85, 86, 87, 88, 89, 90, 91, 92, 93, 94] [
        ⟨(some 81), (.mv (.tmp 0)), none⟩, 
        ⟨(some 82), (.mv (.tmp 10)), none⟩, 
        ⟨(some 83), (.mv (.tmp 0)), none⟩, 
        ⟨(some 84), (.mv (.tmp 11)), none⟩, 
        ⟨(some 85), (.mv (.tmp 0)), none⟩, 
        ⟨(some 86), (.mv (.tmp 11)), none⟩, 
        ⟨(some 87), (.idxSl 1 (.tmp 85) (.tmp 86)), none⟩, 
        ⟨(some 88), (.load1 (.tmp 87)), none⟩, 
        ⟨(some 89), (.mv (.tmp 0)), none⟩, 
        ⟨(some 90), (.mv (.tmp 10)), none⟩, 
        ⟨(some 91), (.idxSl 1 (.tmp 89) (.tmp 90)), none⟩, 
        ⟨(some 92), (.load1 (.tmp 91)), none⟩, 
        ⟨(some 93), (.idxSl 1 (.tmp 81) (.tmp 82)), none⟩, 
        ⟨none, (.store1 (.tmp 93) (.tmp 88)), none⟩, 
        ⟨(some 94), (.idxSl 1 (.tmp 83) (.tmp 84)), none⟩, 
        ⟨none, (.store1 (.tmp 94) (.tmp 92)), none⟩])
       (.seq (.ops [
         ⟨(some 95), (.mv (.tmp 10)), none⟩, 
         ⟨(some 96), (.bin .add (.tmp 95) (.const (.int .i64 1))), none⟩, 
         ⟨(some 10), (.mv (.tmp 96)), none⟩])
        (.seq (.ops [
          ⟨(some 97), (.mv (.tmp 11)), none⟩, 
          ⟨(some 98), (.bin .sub (.tmp 97) (.const (.int .i64 1))), none⟩, 
          ⟨(some 11), (.mv (.tmp 98)), none⟩])
         (.seq (.block 4
           (.loop
            (.block 5
             (.seq (.block 6
               (.loop
                (.seq (.seq (.any [99, 100, 101, 102, 103, 104, 105, 106, 107, 108, 109, 110, 111, 112] [
                   ⟨(some 99), (.mv (.tmp 10)), none⟩, 
                   ⟨(some 100), (.mv (.tmp 11)), none⟩, 
                   ⟨(some 101), (.bin .leq (.tmp 99) (.tmp 100)), none⟩, 
                   ⟨(some 102), (.mv (.tmp 101)), none⟩, 
                   ⟨(some 103), (.mv (.tmp 0)), (some (102, true))⟩, 
                   ⟨(some 104), (.mv (.tmp 10)), (some (102, true))⟩, 
                   ⟨(some 105), (.idxSl 1 (.tmp 103) (.tmp 104)), (some (102, true))⟩, 
                   ⟨(some 106), (.load1 (.tmp 105)), (some (102, true))⟩, 
                   ⟨(some 107), (.mv (.tmp 0)), (some (102, true))⟩, 
                   ⟨(some 108), (.mv (.tmp 1)), (some (102, true))⟩, 
                   ⟨(some 109), (.idxSl 1 (.tmp 107) (.tmp 108)), (some (102, true))⟩, 
                   ⟨(some 110), (.load1 (.tmp 109)), (some (102, true))⟩, 
                   ⟨(some 111), (.callF 100 [(.tmp 106), (.tmp 110)]), (some (102, true))⟩, 
                   ⟨(some 112), (.pick (.tmp 102) (.tmp 111) (.const (.bool false))), none⟩])
                  (.cond (.tmp 112)
                   .skip
                   (.exit 6)))
                 (.block 7
                  (.ops [
                   ⟨(some 113), (.mv (.tmp 10)), none⟩, 
                   ⟨(some 114), (.bin .add (.tmp 113) (.const (.int .i64 1))), none⟩, 
                   ⟨(some 10), (.mv (.tmp 114)), none⟩])))))
              (.seq (.block 8
                (.loop
                 (.seq (.seq (.any [115, 116, 117, 118, 119, 120, 121, 122, 123, 124, 125, 126, 127, 128, 129] [
                    ⟨(some 115), (.mv (.tmp 10)), none⟩, 
                    ⟨(some 116), (.mv (.tmp 11)), none⟩, 
                    ⟨(some 117), (.bin .leq (.tmp 115) (.tmp 116)), none⟩, 
                    ⟨(some 118), (.mv (.tmp 117)), none⟩, 
                    ⟨(some 119), (.mv (.tmp 0)), (some (118, true))⟩, 
                    ⟨(some 120), (.mv (.tmp 11)), (some (118, true))⟩, 
                    ⟨(some 121), (.idxSl 1 (.tmp 119) (.tmp 120)), (some (118, true))⟩, 
                    ⟨(some 122), (.load1 (.tmp 121)), (some (118, true))⟩, 
                    ⟨(some 123), (.mv (.tmp 0)), (some (118, true))⟩, 
                    ⟨(some 124), (.mv (.tmp 1)), (some (118, true))⟩, 
                    ⟨(some 125), (.idxSl 1 (.tmp 123) (.tmp 124)), (some (118, true))⟩, 
                    ⟨(some 126), (.load1 (.tmp 125)), (some (118, true))⟩, 
                    ⟨(some 127), (.callF 100 [(.tmp 122), (.tmp 126)]), (some (118, true))⟩, 
                    ⟨(some 128), (.un .not (.tmp 127)), (some (118, true))⟩, 
                    ⟨(some 129), (.pick (.tmp 118) (.tmp 128) (.const (.bool false))), none⟩])
                   (.cond (.tmp 129)
                    .skip
                    (.exit 8)))
                  (.block 9
                   (.ops [
                    ⟨(some 130), (.mv (.tmp 11)), none⟩, 
                    ⟨(some 131), (.bin .sub (.tmp 130) (.const (.int .i64 1))), none⟩, 
                    ⟨(some 11), (.mv (.tmp 131)), none⟩])))))
               (.seq (.seq (.ops [
                  ⟨(some 132), (.mv (.tmp 10)), none⟩, 
                  ⟨(some 133), (.mv (.tmp 11)), none⟩, 
                  ⟨(some 134), (.bin .gtr (.tmp 132) (.tmp 133)), none⟩])
                 (.cond (.tmp 134)
                  (.exit 4)
                  .skip))
                (.seq (.any [135, 136, 137, 138, 139, 140, 141, 142, 143, 144, 145, 146, 147, 148] [
                  ⟨(some 135), (.mv (.tmp 0)), none⟩, 
                  ⟨(some 136), (.mv (.tmp 10)), none⟩, 
                  ⟨(some 137), (.mv (.tmp 0)), none⟩, 
                  ⟨(some 138), (.mv (.tmp 11)), none⟩, 
                  ⟨(some 139), (.mv (.tmp 0)), none⟩, 
                  ⟨(some 140), (.mv (.tmp 11)), none⟩, 
                  ⟨(some 141), (.idxSl 1 (.tmp 139) (.tmp 140)), none⟩, 
                  ⟨(some 142), (.load1 (.tmp 141)), none⟩, 
                  ⟨(some 143), (.mv (.tmp 0)), none⟩, 
                  ⟨(some 144), (.mv (.tmp 10)), none⟩, 
                  ⟨(some 145), (.idxSl 1 (.tmp 143) (.tmp 144)), none⟩, 
                  ⟨(some 146), (.load1 (.tmp 145)), none⟩, 
                  ⟨(some 147), (.idxSl 1 (.tmp 135) (.tmp 136)), none⟩, 
                  ⟨none, (.store1 (.tmp 147) (.tmp 142)), none⟩, 
                  ⟨(some 148), (.idxSl 1 (.tmp 137) (.tmp 138)), none⟩, 
                  ⟨none, (.store1 (.tmp 148) (.tmp 146)), none⟩])
                 (.seq (.ops [
                   ⟨(some 149), (.mv (.tmp 10)), none⟩, 
                   ⟨(some 150), (.bin .add (.tmp 149) (.const (.int .i64 1))), none⟩, 
                   ⟨(some 10), (.mv (.tmp 150)), none⟩])
                  (.ops [
                   ⟨(some 151), (.mv (.tmp 11)), none⟩, 
                   ⟨(some 152), (.bin .sub (.tmp 151) (.const (.int .i64 1))), none⟩, 
                   ⟨(some 11), (.mv (.tmp 152)), none⟩])))))))))
          (.seq (.any [153, 154, 155, 156, 157, 158, 159, 160, 161, 162, 163, 164, 165, 166] [
            ⟨(some 153), (.mv (.tmp 0)), none⟩, 
            ⟨(some 154), (.mv (.tmp 11)), none⟩, 
            ⟨(some 155), (.mv (.tmp 0)), none⟩, 
            ⟨(some 156), (.mv (.tmp 1)), none⟩, 
            ⟨(some 157), (.mv (.tmp 0)), none⟩, 
            ⟨(some 158), (.mv (.tmp 1)), none⟩, 
            ⟨(some 159), (.idxSl 1 (.tmp 157) (.tmp 158)), none⟩, 
            ⟨(some 160), (.load1 (.tmp 159)), none⟩, 
            ⟨(some 161), (.mv (.tmp 0)), none⟩, 
            ⟨(some 162), (.mv (.tmp 11)), none⟩, 
            ⟨(some 163), (.idxSl 1 (.tmp 161) (.tmp 162)), none⟩, 
            ⟨(some 164), (.load1 (.tmp 163)), none⟩, 
            ⟨(some 165), (.idxSl 1 (.tmp 153) (.tmp 154)), none⟩, 
            ⟨none, (.store1 (.tmp 165) (.tmp 160)), none⟩, 
            ⟨(some 166), (.idxSl 1 (.tmp 155) (.tmp 156)), none⟩, 
            ⟨none, (.store1 (.tmp 166) (.tmp 164)), none⟩])
           (.seq (.ops [
             ⟨(some 167), (.mv (.tmp 11)), none⟩, 
             ⟨(some 8), (.mv (.tmp 167)), none⟩, 
             ⟨(some 9), (.mv (.const (.bool false))), none⟩])
            .ret))))))))))))
theorem c102 {args : Array Value} {h : Heap} {R : Ending → Heap → Prop} (ha : args.size ≤ 168) (hh : aexec Try.prog ac102 (abody [(.slot 8), (.slot 9)] R) ⟨initFr args.toList, []⟩ h) : HCalls Try.prog 102 args h R :=
  hcalls_of Try.func102 rfl rfl (by kernel_rfl) (by kernel_rfl) ha hh
/-- 107: slices.siftDownOrdered[string] -/
def ac107 : ACode :=
 (.seq (.ops [
  ⟨(some 10), (.mv (.tmp 1)), none⟩, 
  ⟨(some 8), (.mv (.tmp 10)), none⟩])
 (.block 0
  (.loop
   (.block 1
    (.seq (.ops [
      ⟨(some 11), (.mv (.tmp 8)), none⟩, 
      ⟨(some 12), (.bin .mul (.const (.int .i64 2)) (.tmp 11)), none⟩, 
      ⟨(some 13), (.bin .add (.tmp 12) (.const (.int .i64 1))), none⟩, 
      ⟨(some 9), (.mv (.tmp 13)), none⟩])
     (.seq (.seq (.ops [
        ⟨(some 14), (.mv (.tmp 9)), none⟩, 
        ⟨(some 15), (.mv (.tmp 2)), none⟩, 
        ⟨(some 16), (.bin .geq (.tmp 14) (.tmp 15)), none⟩])
       (.cond (.tmp 16)
        (.exit 0)
        .skip))
      (.seq (.seq (.any [17, 18, 19, 20, 21, 22, 23, 24, 25, 26, 27, 28, 29, 30, 31, 32, 33, 34, 35, 36] [
         ⟨(some 17), (.mv (.tmp 9)), none⟩, 
         ⟨(some 18), (.bin .add (.tmp 17) (.const (.int .i64 1))), none⟩, 
         ⟨(some 19), (.mv (.tmp 2)), none⟩, 
         ⟨(some 20), (.bin .lss (.tmp 18) (.tmp 19)), none⟩, 
         ⟨(some 21), (.mv (.tmp 20)), none⟩, 
         ⟨(some 22), (.mv (.tmp 0)), (some (21, true))⟩, 
         ⟨(some 23), (.mv (.tmp 3)), (some (21, true))⟩, 
         ⟨(some 24), (.mv (.tmp 9)), (some (21, true))⟩, 
         ⟨(some 25), (.bin .add (.tmp 23) (.tmp 24)), (some (21, true))⟩, 
         ⟨(some 26), (.idxSl 1 (.tmp 22) (.tmp 25)), (some (21, true))⟩, 
         ⟨(some 27), (.load1 (.tmp 26)), (some (21, true))⟩, 
         ⟨(some 28), (.mv (.tmp 0)), (some (21, true))⟩, 
         ⟨(some 29), (.mv (.tmp 3)), (some (21, true))⟩, 
         ⟨(some 30), (.mv (.tmp 9)), (some (21, true))⟩, 
         ⟨(some 31), (.bin .add (.tmp 29) (.tmp 30)), (some (21, true))⟩, 
         ⟨(some 32), (.bin .add (.tmp 31) (.const (.int .i64 1))), (some (21, true))⟩, 
         ⟨(some 33), (.idxSl 1 (.tmp 28) (.tmp 32)), (some (21, true))⟩, 
         ⟨(some 34), (.load1 (.tmp 33)), (some (21, true))⟩, 
         ⟨(some 35), (.callF 100 [(.tmp 27), (.tmp 34)]), (some (21, true))⟩, 
         ⟨(some 36), (.pick (.tmp 21) (.tmp 35) (.const (.bool false))), none⟩])
        (.cond (.tmp 36)
         (.ops [
          ⟨(some 37), (.mv (.tmp 9)), none⟩, 
          ⟨(some 38), (.bin .add (.tmp 37) (.const (.int .i64 1))), none⟩, 
          ⟨(some 9), (.mv (.tmp 38)), none⟩])
         .skip))
       (.seq (.seq (.any [39, 40, 41, 42, 43, 44, 45, 46, 47, 48, 49, 50, 51, 52] [
          ⟨(some 39), (.mv (.tmp 0)), none⟩, 
          ⟨(some 40), (.mv (.tmp 3)), none⟩, 
          ⟨(some 41), (.mv (.tmp 8)), none⟩, 
          ⟨(some 42), (.bin .add (.tmp 40) (.tmp 41)), none⟩, 
          ⟨(some 43), (.idxSl 1 (.tmp 39) (.tmp 42)), none⟩, 
          ⟨(some 44), (.load1 (.tmp 43)), none⟩, 
          ⟨(some 45), (.mv (.tmp 0)), none⟩, 
          ⟨(some 46), (.mv (.tmp 3)), none⟩, 
          ⟨(some 47), (.mv (.tmp 9)), none⟩, 
          ⟨(some 48), (.bin .add (.tmp 46) (.tmp 47)), none⟩, 
          ⟨(some 49), (.idxSl 1 (.tmp 45) (.tmp 48)), none⟩, 
          ⟨(some 50), (.load1 (.tmp 49)), none⟩, 
          ⟨(some 51), (.callF 100 [(.tmp 44), (.tmp 50)]), none⟩, 
          ⟨(some 52), (.un .not (.tmp 51)), none⟩])
         (.cond (.tmp 52)
          .ret
          .skip))
        (.seq (.any [53, 54, 55, 56, 57, 58, 59, 60, 61, 62, 63, 64, 65, 66, 67, 68, 69, 70, 71, 72, 73, 74] [
          ⟨(some 53), (.mv (.tmp 0)), none⟩, 
          ⟨(some 54), (.mv (.tmp 3)), none⟩, 
          ⟨(some 55), (.mv (.tmp 8)), none⟩, 
          ⟨(some 56), (.bin .add (.tmp 54) (.tmp 55)), none⟩, 
          ⟨(some 57), (.mv (.tmp 0)), none⟩, 
          ⟨(some 58), (.mv (.tmp 3)), none⟩, 
          ⟨(some 59), (.mv (.tmp 9)), none⟩, 
          ⟨(some 60), (.bin .add (.tmp 58) (.tmp 59)), none⟩, 
          ⟨(some 61), (.mv (.tmp 0)), none⟩, 
          ⟨(some 62), (.mv (.tmp 3)), none⟩, 
          ⟨(some 63), (.mv (.tmp 9)), none⟩, 
          ⟨(some 64), (.bin .add (.tmp 62) (.tmp 63)), none⟩, 
          ⟨(some 65), (.idxSl 1 (.tmp 61) (.tmp 64)), none⟩, 
          ⟨(some 66), (.load1 (.tmp 65)), none⟩, 
          ⟨(some 67), (.mv (.tmp 0)), none⟩, 
          ⟨(some 68), (.mv (.tmp 3)), none⟩, 
          ⟨(some 69), (.mv (.tmp 8)), none⟩, 
          ⟨(some 70), (.bin .add (.tmp 68) (.tmp 69)), none⟩, 
          ⟨(some 71), (.idxSl 1 (.tmp 67) (.tmp 70)), none⟩, 
          ⟨(some 72), (.load1 (.tmp 71)), none⟩, 
          ⟨(some 73), (.idxSl 1 (.tmp 53) (.tmp 56)), none⟩, 
          ⟨none, (.store1 (.tmp 73) (.tmp 66)), none⟩, 
          ⟨(some 74), (.idxSl 1 (.tmp 57) (.tmp 60)), none⟩, 
          ⟨none, (.store1 (.tmp 74) (.tmp 72)), none⟩])
         (.ops [
          ⟨(some 75), (.mv (.tmp 9)), none⟩, 
          ⟨(some 8), (.mv (.tmp 75)), none⟩]))))))))))
theorem c107 {args : Array Value} {h : Heap} {R : Ending → Heap → Prop} (ha : args.size ≤ 76) (hh : aexec Try.prog ac107 (abody [] R) ⟨initFr args.toList, []⟩ h) : HCalls Try.prog 107 args h R :=
  hcalls_of Try.func107 rfl rfl (by kernel_rfl) (by kernel_rfl) ha hh
/-- 112: cmp.isNaN[string] -/
def ac112 : ACode :=
 (.seq (.ops [
  ⟨(some 2), (.mv (.const (.bool false))), none⟩])
 (.seq (.ops [
   ⟨(some 3), (.mv (.tmp 0)), none⟩, 
   ⟨(some 4), (.mv (.tmp 0)), none⟩, 
   ⟨(some 5), (.bin .neq (.tmp 3) (.tmp 4)), none⟩, 
   ⟨(some 2), (.mv (.tmp 5)), none⟩])
  .ret))
theorem c112 {args : Array Value} {h : Heap} {R : Ending → Heap → Prop} (ha : args.size ≤ 6) (hh : aexec Try.prog ac112 (abody [(.slot 2)] R) ⟨initFr args.toList, []⟩ h) : HCalls Try.prog 112 args h R :=
  hcalls_of Try.func112 rfl rfl (by kernel_rfl) (by kernel_rfl) ha hh


end Go.Proofs.Ytlogpojkkbcpjaa.Hc
