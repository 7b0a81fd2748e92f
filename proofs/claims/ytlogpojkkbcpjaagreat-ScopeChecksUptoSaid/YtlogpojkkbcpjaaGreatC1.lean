import Derived.Test.YtlogpojkkbcpjaaGreatProg
import Derived.Test.YtlogpojkkbcpjaaGreatHM
import Derived.Test.YtlogpojkkbcpjaaGreatHP
import Derived.Test.YtlogpojkkbcpjaaGreatHR
import Derived.KernelRfl
set_option linter.unusedVariables false
namespace Go.Proofs.YtlogpojkkbcpjaaGreat.Hc
open Go Go.H Go.Proofs
set_option maxRecDepth 100000
/-- 68: credenza/credenzaref07.cases -/
def ac68 : ACode :=
 (.seq (.ops [
  ⟨(some 2), (.mv (.const (.bool false))), none⟩])
 (.seq (.ops [
   ⟨(some 3), (.mv (.const (.int .i64 0))), none⟩])
  (.seq (.seq (.ops [
     ⟨(some 6), (.mv (.tmp 0)), none⟩, 
     ⟨(some 7), (.lenSl (.tmp 6)), none⟩, 
     ⟨(some 8), (.mv (.const (.int .i64 0))), none⟩])
    (.block 0
     (.loop
      (.seq (.ops [
        ⟨(some 9), (.bin .lss (.tmp 8) (.tmp 7)), none⟩])
       (.seq (.cond (.tmp 9)
         .skip
         (.exit 0))
        (.seq (.block 1
          (.seq (.ops [
            ⟨(some 10), (.idxSl 6 (.tmp 6) (.tmp 8)), none⟩, 
            ⟨(some 11), (.loadN 6 (.tmp 10)), none⟩, 
            ⟨(some 5), (.new 25 [(.int .i64 0), (.string ⟨#[]⟩), (.int .i64 0), (.string ⟨#[]⟩), (.slice none 0 0), (.slice none 0 0)]), none⟩, 
            ⟨none, (.storeN 6 (.tmp 5) (.tmp 11)), none⟩])
           (.seq (.seq (.ops [
              ⟨(some 12), (.fieldAddr 0 (.tmp 5)), none⟩, 
              ⟨(some 13), (.load1 (.tmp 12)), none⟩, 
              ⟨(some 14), (.bin .neq (.tmp 13) (.const (.int .i64 37))), none⟩, 
              ⟨(some 15), (.mv (.tmp 14)), none⟩, 
              ⟨(some 16), (.loadN 6 (.tmp 5)), (some (15, false))⟩, 
              ⟨(some 17), (.callF 23 [(.tmp 16)]), (some (15, false))⟩, 
              ⟨(some 18), (.un .not (.tmp 17)), (some (15, false))⟩, 
              ⟨(some 19), (.pick (.tmp 15) (.const (.bool true)) (.tmp 18)), none⟩, 
              ⟨(some 20), (.mv (.tmp 19)), none⟩, 
              ⟨(some 21), (.fieldAddr 5 (.tmp 5)), (some (20, false))⟩, 
              ⟨(some 22), (.load1 (.tmp 21)), (some (20, false))⟩, 
              ⟨(some 23), (.lenSl (.tmp 22)), (some (20, false))⟩, 
              ⟨(some 24), (.bin .eql (.tmp 23) (.const (.int .i64 0))), (some (20, false))⟩, 
              ⟨(some 25), (.pick (.tmp 20) (.const (.bool true)) (.tmp 24)), none⟩, 
              ⟨(some 26), (.mv (.tmp 25)), none⟩, 
              ⟨(some 27), (.fieldAddr 5 (.tmp 5)), (some (26, false))⟩, 
              ⟨(some 28), (.load1 (.tmp 27)), (some (26, false))⟩, 
              ⟨(some 29), (.idxSl 6 (.tmp 28) (.const (.int .i64 0))), (some (26, false))⟩, 
              ⟨(some 30), (.loadN 6 (.tmp 29)), (some (26, false))⟩, 
              ⟨(some 31), (.callF 67 [(.tmp 30)]), (some (26, false))⟩, 
              ⟨(some 32), (.un .not (.tmp 31)), (some (26, false))⟩, 
              ⟨(some 33), (.mv (.tmp 32)), (some (26, false))⟩, 
              ⟨(some 34), (.fieldAddr 5 (.tmp 5)), (some (33, true))⟩, 
              ⟨(some 35), (.load1 (.tmp 34)), (some (33, true))⟩, 
              ⟨(some 36), (.idxSl 6 (.tmp 35) (.const (.int .i64 0))), (some (33, true))⟩, 
              ⟨(some 37), (.loadN 6 (.tmp 36)), (some (33, true))⟩, 
              ⟨(some 38), (.callF 63 [(.tmp 37)]), (some (33, true))⟩, 
              ⟨(some 39), (.un .not (.tmp 38)), (some (33, true))⟩, 
              ⟨(some 40), (.pick (.tmp 33) (.tmp 39) (.const (.bool false))), (some (26, false))⟩, 
              ⟨(some 41), (.pick (.tmp 26) (.const (.bool true)) (.tmp 40)), none⟩, 
              ⟨(some 42), (.mv (.tmp 41)), none⟩, 
              ⟨(some 43), (.fieldAddr 5 (.tmp 5)), (some (42, false))⟩, 
              ⟨(some 44), (.load1 (.tmp 43)), (some (42, false))⟩, 
              ⟨(some 45), (.sliceSl 6 (.tmp 44) (some (.const (.int .i64 1))) none none), (some (42, false))⟩, 
              ⟨(some 46), (.callF 24 [(.tmp 45), (.const (.bool false))]), (some (42, false))⟩, 
              ⟨(some 47), (.un .not (.tmp 46)), (some (42, false))⟩, 
              ⟨(some 48), (.pick (.tmp 42) (.const (.bool true)) (.tmp 47)), none⟩])
             (.cond (.tmp 48)
              (.seq (.ops [
                ⟨(some 2), (.mv (.const (.bool false))), none⟩])
               .ret)
              .skip))
            (.seq (.ops [
              ⟨(some 49), (.fieldAddr 5 (.tmp 5)), none⟩, 
              ⟨(some 50), (.load1 (.tmp 49)), none⟩, 
              ⟨(some 51), (.idxSl 6 (.tmp 50) (.const (.int .i64 0))), none⟩, 
              ⟨(some 52), (.loadN 6 (.tmp 51)), none⟩, 
              ⟨(some 53), (.callF 67 [(.tmp 52)]), none⟩])
             (.cond (.tmp 53)
              (.ops [
               ⟨(some 54), (.mv (.tmp 3)), none⟩, 
               ⟨(some 55), (.bin .add (.tmp 54) (.const (.int .i64 1))), none⟩, 
               ⟨(some 3), (.mv (.tmp 55)), none⟩])
              .skip)))))
         (.ops [
          ⟨(some 56), (.bin .add (.tmp 8) (.const (.int .i64 1))), none⟩, 
          ⟨(some 8), (.mv (.tmp 56)), none⟩])))))))
   (.seq (.ops [
     ⟨(some 57), (.mv (.tmp 3)), none⟩, 
     ⟨(some 58), (.bin .leq (.tmp 57) (.const (.int .i64 1))), none⟩, 
     ⟨(some 2), (.mv (.tmp 58)), none⟩])
    .ret))))
theorem c68 {args : Array Value} {h : Heap} {R : Ending → Heap → Prop} (ha : args.size ≤ 59) (hh : aexec Tryz.prog ac68 (abody [(.slot 2)] R) ⟨initFr args.toList, []⟩ h) : HCalls Tryz.prog 68 args h R :=
  hcalls_of Tryz.func68 rfl rfl (by kernel_rfl) (by kernel_rfl) ha hh
/-- 69: credenza/token.letter -/
def ac69 : ACode :=
 (.seq (.ops [
  ⟨(some 2), (.mv (.const (.bool false))), none⟩])
 (.seq (.ops [
   ⟨(some 3), (.mv (.tmp 0)), none⟩, 
   ⟨(some 4), (.bin .or (.tmp 3) (.const (.int .u8 32))), none⟩, 
   ⟨(some 5), (.bin .geq (.tmp 4) (.const (.int .u8 97))), none⟩, 
   ⟨(some 6), (.mv (.tmp 5)), none⟩, 
   ⟨(some 7), (.mv (.tmp 0)), (some (6, true))⟩, 
   ⟨(some 8), (.bin .or (.tmp 7) (.const (.int .u8 32))), (some (6, true))⟩, 
   ⟨(some 9), (.bin .leq (.tmp 8) (.const (.int .u8 122))), (some (6, true))⟩, 
   ⟨(some 10), (.pick (.tmp 6) (.tmp 9) (.const (.bool false))), none⟩, 
   ⟨(some 11), (.mv (.tmp 10)), none⟩, 
   ⟨(some 12), (.mv (.tmp 0)), (some (11, false))⟩, 
   ⟨(some 13), (.bin .eql (.tmp 12) (.const (.int .u8 95))), (some (11, false))⟩, 
   ⟨(some 14), (.pick (.tmp 11) (.const (.bool true)) (.tmp 13)), none⟩, 
   ⟨(some 15), (.mv (.tmp 14)), none⟩, 
   ⟨(some 16), (.mv (.tmp 0)), (some (15, false))⟩, 
   ⟨(some 17), (.bin .eql (.tmp 16) (.const (.int .u8 36))), (some (15, false))⟩, 
   ⟨(some 18), (.pick (.tmp 15) (.const (.bool true)) (.tmp 17)), none⟩, 
   ⟨(some 2), (.mv (.tmp 18)), none⟩])
  .ret))
theorem c69 {args : Array Value} {h : Heap} {R : Ending → Heap → Prop} (ha : args.size ≤ 19) (hh : aexec Tryz.prog ac69 (abody [(.slot 2)] R) ⟨initFr args.toList, []⟩ h) : HCalls Tryz.prog 69 args h R :=
  hcalls_of Tryz.func69 rfl rfl (by kernel_rfl) (by kernel_rfl) ha hh
/-- 70: credenza/token.row -/
def ac70 : ACode :=
 (.seq (.ops [
  ⟨(some 2), (.mv (.const (.int .i64 0))), none⟩])
 (.seq (.seq (.ops [
    ⟨(some 4), (.mv (.tmp 0)), none⟩, 
    ⟨(some 5), (.lenStr (.tmp 4)), none⟩, 
    ⟨(some 6), (.mv (.const (.int .i64 0))), none⟩])
   (.block 0
    (.loop
     (.seq (.ops [
       ⟨(some 7), (.bin .lss (.tmp 6) (.tmp 5)), none⟩])
      (.seq (.cond (.tmp 7)
        .skip
        (.exit 0))
       (.seq (.block 1
         (.seq (.ops [
           ⟨(some 8), (.mv (.tmp 6)), none⟩, 
           ⟨(some 3), (.mv (.tmp 8)), none⟩])
          (.seq (.ops [
            ⟨(some 9), (.mv (.tmp 0)), none⟩, 
            ⟨(some 10), (.mv (.tmp 3)), none⟩, 
            ⟨(some 11), (.idxStr (.tmp 9) (.tmp 10)), none⟩, 
            ⟨(some 12), (.callF 69 [(.tmp 11)]), none⟩, 
            ⟨(some 13), (.un .not (.tmp 12)), none⟩, 
            ⟨(some 14), (.mv (.tmp 13)), none⟩, 
            ⟨(some 15), (.mv (.tmp 0)), (some (14, true))⟩, 
            ⟨(some 16), (.mv (.tmp 3)), (some (14, true))⟩, 
            ⟨(some 17), (.idxStr (.tmp 15) (.tmp 16)), (some (14, true))⟩, 
            ⟨(some 18), (.callF 82 [(.tmp 17)]), (some (14, true))⟩, 
            ⟨(some 19), (.un .not (.tmp 18)), (some (14, true))⟩, 
            ⟨(some 20), (.pick (.tmp 14) (.tmp 19) (.const (.bool false))), none⟩])
           (.cond (.tmp 20)
            (.seq (.ops [
              ⟨(some 21), (.mv (.tmp 3)), none⟩, 
              ⟨(some 2), (.mv (.tmp 21)), none⟩])
             .ret)
            .skip))))
        (.ops [
         ⟨(some 22), (.bin .add (.tmp 6) (.const (.int .i64 1))), none⟩, 
         ⟨(some 6), (.mv (.tmp 22)), none⟩])))))))
  (.seq (.ops [
    ⟨(some 23), (.mv (.tmp 0)), none⟩, 
    ⟨(some 24), (.lenStr (.tmp 23)), none⟩, 
    ⟨(some 2), (.mv (.tmp 24)), none⟩])
   .ret)))
theorem c70 {args : Array Value} {h : Heap} {R : Ending → Heap → Prop} (ha : args.size ≤ 25) (hh : aexec Tryz.prog ac70 (abody [(.slot 2)] R) ⟨initFr args.toList, []⟩ h) : HCalls Tryz.prog 70 args h R :=
  hcalls_of Tryz.func70 rfl rfl (by kernel_rfl) (by kernel_rfl) ha hh
/-- 72: credenza/token.among -/
def ac72 : ACode :=
 (.seq (.ops [
  ⟨(some 4), (.mv (.const (.bool false))), none⟩])
 (.seq (.ops [
   ⟨(some 5), (.mv (.tmp 1)), none⟩, 
   ⟨(some 6), (.bin .neq (.tmp 5) (.const (.string ⟨#[]⟩))), none⟩, 
   ⟨(some 7), (.mv (.tmp 6)), none⟩, 
   ⟨(some 8), (.mv (.tmp 1)), (some (7, true))⟩, 
   ⟨(some 9), (.callF 71 [(.tmp 8), (.const (.string ⟨#[32]⟩))]), (some (7, true))⟩, 
   ⟨(some 10), (.un .not (.tmp 9)), (some (7, true))⟩, 
   ⟨(some 11), (.pick (.tmp 7) (.tmp 10) (.const (.bool false))), none⟩, 
   ⟨(some 12), (.mv (.tmp 11)), none⟩, 
   ⟨(some 13), (.mv (.tmp 0)), (some (12, true))⟩, 
   ⟨(some 14), (.mv (.tmp 1)), (some (12, true))⟩, 
   ⟨(some 15), (.bin .add (.const (.string ⟨#[32]⟩)) (.tmp 14)), (some (12, true))⟩, 
   ⟨(some 16), (.bin .add (.tmp 15) (.const (.string ⟨#[32]⟩))), (some (12, true))⟩, 
   ⟨(some 17), (.callF 71 [(.tmp 13), (.tmp 16)]), (some (12, true))⟩, 
   ⟨(some 18), (.pick (.tmp 12) (.tmp 17) (.const (.bool false))), none⟩, 
   ⟨(some 4), (.mv (.tmp 18)), none⟩])
  .ret))
theorem c72 {args : Array Value} {h : Heap} {R : Ending → Heap → Prop} (ha : args.size ≤ 19) (hh : aexec Tryz.prog ac72 (abody [(.slot 4)] R) ⟨initFr args.toList, []⟩ h) : HCalls Tryz.prog 72 args h R :=
  hcalls_of Tryz.func72 rfl rfl (by kernel_rfl) (by kernel_rfl) ha hh
/-- 74: slices.AppendSeq[[]string,string] -/
def ac74 : ACode :=
 (.seq (.ops [
  ⟨(some 2), (.box 22 (.tmp 0)), none⟩, 
  ⟨(some 4), (.mv (.const (.slice none 0 0))), none⟩])
 (.seq (.seq (.ops [
    ⟨(some 6), (.mv (.tmp 1)), none⟩])
   (.block 0
    (.range (.tmp 6) [7]
     (.ops [
      ⟨(some 5), (.mv (.tmp 7)), none⟩])
     (.block 1
      (.ops [
       ⟨(some 8), (.load1 (.tmp 2)), none⟩, 
       ⟨(some 9), (.mv (.tmp 5)), none⟩, 
       ⟨(some 10), (.buildSlice 9 1 [(.string ⟨#[]⟩)] [(0, 1, (.tmp 9))]), none⟩, 
       ⟨(some 11), (.append 9 1 16 [(.string ⟨#[]⟩)] (.tmp 8) (.tmp 10)), none⟩, 
       ⟨none, (.store1 (.tmp 2) (.tmp 11)), none⟩])))))
  (.seq (.ops [
    ⟨(some 12), (.load1 (.tmp 2)), none⟩, 
    ⟨(some 4), (.mv (.tmp 12)), none⟩])
   .ret)))
theorem c74 {args : Array Value} {h : Heap} {R : Ending → Heap → Prop} (ha : args.size ≤ 13) (hh : aexec Tryz.prog ac74 (abodyM [(.slot 4)] R) ⟨initFr args.toList, []⟩ h) : HCalls Tryz.prog 74 args h R :=
  hcalls_of_m Tryz.func74 rfl rfl (by kernel_rfl) (by kernel_rfl) ha hh
/-- 77: credenza/credenzaref06.digit -/
def ac77 : ACode :=
 (.seq (.ops [
  ⟨(some 2), (.mv (.const (.bool false))), none⟩])
 (.seq (.ops [
   ⟨(some 3), (.mv (.tmp 0)), none⟩, 
   ⟨(some 4), (.bin .geq (.tmp 3) (.const (.int .u8 48))), none⟩, 
   ⟨(some 5), (.mv (.tmp 4)), none⟩, 
   ⟨(some 6), (.mv (.tmp 0)), (some (5, true))⟩, 
   ⟨(some 7), (.bin .leq (.tmp 6) (.const (.int .u8 57))), (some (5, true))⟩, 
   ⟨(some 8), (.pick (.tmp 5) (.tmp 7) (.const (.bool false))), none⟩, 
   ⟨(some 2), (.mv (.tmp 8)), none⟩])
  .ret))
theorem c77 {args : Array Value} {h : Heap} {R : Ending → Heap → Prop} (ha : args.size ≤ 9) (hh : aexec Tryz.prog ac77 (abody [(.slot 2)] R) ⟨initFr args.toList, []⟩ h) : HCalls Tryz.prog 77 args h R :=
  hcalls_of Tryz.func77 rfl rfl (by kernel_rfl) (by kernel_rfl) ha hh
/-- 78: credenza/credenzaref06.letter -/
def ac78 : ACode :=
 (.seq (.ops [
  ⟨(some 2), (.mv (.const (.bool false))), none⟩])
 (.seq (.ops [
   ⟨(some 3), (.mv (.tmp 0)), none⟩, 
   ⟨(some 4), (.bin .geq (.tmp 3) (.const (.int .u8 97))), none⟩, 
   ⟨(some 5), (.mv (.tmp 4)), none⟩, 
   ⟨(some 6), (.mv (.tmp 0)), (some (5, true))⟩, 
   ⟨(some 7), (.bin .leq (.tmp 6) (.const (.int .u8 122))), (some (5, true))⟩, 
   ⟨(some 8), (.pick (.tmp 5) (.tmp 7) (.const (.bool false))), none⟩, 
   ⟨(some 9), (.mv (.tmp 8)), none⟩, 
   ⟨(some 10), (.mv (.tmp 0)), (some (9, false))⟩, 
   ⟨(some 11), (.bin .geq (.tmp 10) (.const (.int .u8 65))), (some (9, false))⟩, 
   ⟨(some 12), (.mv (.tmp 11)), (some (9, false))⟩, 
   ⟨(some 13), (.mv (.tmp 0)), (some (12, true))⟩, 
   ⟨(some 14), (.bin .leq (.tmp 13) (.const (.int .u8 90))), (some (12, true))⟩, 
   ⟨(some 15), (.pick (.tmp 12) (.tmp 14) (.const (.bool false))), (some (9, false))⟩, 
   ⟨(some 16), (.pick (.tmp 9) (.const (.bool true)) (.tmp 15)), none⟩, 
   ⟨(some 17), (.mv (.tmp 16)), none⟩, 
   ⟨(some 18), (.mv (.tmp 0)), (some (17, false))⟩, 
   ⟨(some 19), (.bin .eql (.tmp 18) (.const (.int .u8 95))), (some (17, false))⟩, 
   ⟨(some 20), (.pick (.tmp 17) (.const (.bool true)) (.tmp 19)), none⟩, 
   ⟨(some 21), (.mv (.tmp 20)), none⟩, 
   ⟨(some 22), (.mv (.tmp 0)), (some (21, false))⟩, 
   ⟨(some 23), (.bin .eql (.tmp 22) (.const (.int .u8 36))), (some (21, false))⟩, 
   ⟨(some 24), (.pick (.tmp 21) (.const (.bool true)) (.tmp 23)), none⟩, 
   ⟨(some 2), (.mv (.tmp 24)), none⟩])
  .ret))
theorem c78 {args : Array Value} {h : Heap} {R : Ending → Heap → Prop} (ha : args.size ≤ 25) (hh : aexec Tryz.prog ac78 (abody [(.slot 2)] R) ⟨initFr args.toList, []⟩ h) : HCalls Tryz.prog 78 args h R :=
  hcalls_of Tryz.func78 rfl rfl (by kernel_rfl) (by kernel_rfl) ha hh
/-- 79: credenza/credenzaref07.has -/
def ac79 : ACode :=
 (.seq (.ops [
  ⟨(some 4), (.mv (.const (.bool false))), none⟩])
 (.seq (.seq (.ops [
    ⟨(some 7), (.mv (.tmp 0)), none⟩, 
    ⟨(some 8), (.lenSl (.tmp 7)), none⟩, 
    ⟨(some 9), (.mv (.const (.int .i64 0))), none⟩])
   (.block 0
    (.loop
     (.seq (.ops [
       ⟨(some 10), (.bin .lss (.tmp 9) (.tmp 8)), none⟩])
      (.seq (.cond (.tmp 10)
        .skip
        (.exit 0))
       (.seq (.block 1
         (.seq (.ops [
           ⟨(some 11), (.idxSl 1 (.tmp 7) (.tmp 9)), none⟩, 
           ⟨(some 12), (.load1 (.tmp 11)), none⟩, 
           ⟨(some 6), (.mv (.tmp 12)), none⟩])
          (.seq (.ops [
            ⟨(some 13), (.mv (.tmp 6)), none⟩, 
            ⟨(some 14), (.mv (.tmp 1)), none⟩, 
            ⟨(some 15), (.bin .eql (.tmp 13) (.tmp 14)), none⟩])
           (.cond (.tmp 15)
            (.seq (.ops [
              ⟨(some 4), (.mv (.const (.bool true))), none⟩])
             .ret)
            .skip))))
        (.ops [
         ⟨(some 16), (.bin .add (.tmp 9) (.const (.int .i64 1))), none⟩, 
         ⟨(some 9), (.mv (.tmp 16)), none⟩])))))))
  (.seq (.ops [
    ⟨(some 4), (.mv (.const (.bool false))), none⟩])
   .ret)))
theorem c79 {args : Array Value} {h : Heap} {R : Ending → Heap → Prop} (ha : args.size ≤ 17) (hh : aexec Tryz.prog ac79 (abody [(.slot 4)] R) ⟨initFr args.toList, []⟩ h) : HCalls Tryz.prog 79 args h R :=
  hcalls_of Tryz.func79 rfl rfl (by kernel_rfl) (by kernel_rfl) ha hh
/-- 80: credenza/credenzaref06.words -/
def ac80 : ACode :=
 (.seq (.ops [
  ⟨(some 0), (.mv (.const (.slice none 0 0))), none⟩])
 (.seq (.ops [
   ⟨(some 1), (.buildSlice 9 45 [(.string ⟨#[]⟩), (.string ⟨#[]⟩), (.string ⟨#[]⟩), (.string ⟨#[]⟩), (.string ⟨#[]⟩), (.string ⟨#[]⟩), (.string ⟨#[]⟩), (.string ⟨#[]⟩), (.string ⟨#[]⟩), (.string ⟨#[]⟩), (.string ⟨#[]⟩), (.string ⟨#[]⟩), (.string ⟨#[]⟩), (.string ⟨#[]⟩), (.string ⟨#[]⟩), (.string ⟨#[]⟩), (.string ⟨#[]⟩), (.string ⟨#[]⟩), (.string ⟨#[]⟩), (.string ⟨#[]⟩), (.string ⟨#[]⟩), (.string ⟨#[]⟩), (.string ⟨#[]⟩), (.string ⟨#[]⟩), (.string ⟨#[]⟩), (.string ⟨#[]⟩), (.string ⟨#[]⟩), (.string ⟨#[]⟩), (.string ⟨#[]⟩), (.string ⟨#[]⟩), (.string ⟨#[]⟩), (.string ⟨#[]⟩), (.string ⟨#[]⟩), (.string ⟨#[]⟩), (.string ⟨#[]⟩), (.string ⟨#[]⟩), (.string ⟨#[]⟩), (.string ⟨#[]⟩), (.string ⟨#[]⟩), (.string ⟨#[]⟩), (.string ⟨#[]⟩), (.string ⟨#[]⟩), (.string ⟨#[]⟩), (.string ⟨#[]⟩), (.string ⟨#[]⟩)] [(0, 1, (.const (.string ⟨#[98, 114, 101, 97, 107]⟩))), (1, 1, (.const (.string ⟨#[99, 97, 115, 101]⟩))), (2, 1, (.const (.string ⟨#[99, 97, 116, 99, 104]⟩))), (3, 1, (.const (.string ⟨#[99, 108, 97, 115, 115]⟩))), (4, 1, (.const (.string ⟨#[99, 111, 110, 115, 116]⟩))), (5, 1, (.const (.string ⟨#[99, 111, 110, 116, 105, 110, 117, 101]⟩))), (6, 1, (.const (.string ⟨#[100, 101, 98, 117, 103, 103, 101, 114]⟩))), (7, 1, (.const (.string ⟨#[100, 101, 102, 97, 117, 108, 116]⟩))), (8, 1, (.const (.string ⟨#[100, 101, 108, 101, 116, 101]⟩))), (9, 1, (.const (.string ⟨#[100, 111]⟩))), (10, 1, (.const (.string ⟨#[101, 108, 115, 101]⟩))), (11, 1, (.const (.string ⟨#[101, 110, 117, 109]⟩))), (12, 1, (.const (.string ⟨#[101, 120, 112, 111, 114, 116]⟩))), (13, 1, (.const (.string ⟨#[101, 120, 116, 101, 110, 100, 115]⟩))), (14, 1, (.const (.string ⟨#[102, 97, 108, 115, 101]⟩))), (15, 1, (.const (.string ⟨#[102, 105, 110, 97, 108, 108, 121]⟩))), (16, 1, (.const (.string ⟨#[102, 111, 114]⟩))), (17, 1, (.const (.string ⟨#[102, 117, 110, 99, 116, 105, 111, 110]⟩))), (18, 1, (.const (.string ⟨#[105, 102]⟩))), (19, 1, (.const (.string ⟨#[105, 109, 112, 108, 101, 109, 101, 110, 116, 115]⟩))), (20, 1, (.const (.string ⟨#[105, 109, 112, 111, 114, 116]⟩))), (21, 1, (.const (.string ⟨#[105, 110]⟩))), (22, 1, (.const (.string ⟨#[105, 110, 115, 116, 97, 110, 99, 101, 111, 102]⟩))), (23, 1, (.const (.string ⟨#[105, 110, 116, 101, 114, 102, 97, 99, 101]⟩))), (24, 1, (.const (.string ⟨#[108, 101, 116]⟩))), (25, 1, (.const (.string ⟨#[110, 101, 119]⟩))), (26, 1, (.const (.string ⟨#[110, 117, 108, 108]⟩))), (27, 1, (.const (.string ⟨#[112, 97, 99, 107, 97, 103, 101]⟩))), (28, 1, (.const (.string ⟨#[112, 114, 105, 118, 97, 116, 101]⟩))), (29, 1, (.const (.string ⟨#[112, 114, 111, 116, 101, 99, 116, 101, 100]⟩))), (30, 1, (.const (.string ⟨#[112, 117, 98, 108, 105, 99]⟩))), (31, 1, (.const (.string ⟨#[114, 101, 116, 117, 114, 110]⟩))), (32, 1, (.const (.string ⟨#[115, 116, 97, 116, 105, 99]⟩))), (33, 1, (.const (.string ⟨#[115, 117, 112, 101, 114]⟩))), (34, 1, (.const (.string ⟨#[115, 119, 105, 116, 99, 104]⟩))), (35, 1, (.const (.string ⟨#[116, 104, 105, 115]⟩))), (36, 1, (.const (.string ⟨#[116, 104, 114, 111, 119]⟩))), (37, 1, (.const (.string ⟨#[116, 114, 117, 101]⟩))), (38, 1, (.const (.string ⟨#[116, 114, 121]⟩))), (39, 1, (.const (.string ⟨#[116, 121, 112, 101, 111, 102]⟩))), (40, 1, (.const (.string ⟨#[118, 97, 114]⟩))), (41, 1, (.const (.string ⟨#[118, 111, 105, 100]⟩))), (42, 1, (.const (.string ⟨#[119, 104, 105, 108, 101]⟩))), (43, 1, (.const (.string ⟨#[119, 105, 116, 104]⟩))), (44, 1, (.const (.string ⟨#[121, 105, 101, 108, 100]⟩)))]), none⟩, 
   ⟨(some 0), (.mv (.tmp 1)), none⟩])
  .ret))
theorem c80 {args : Array Value} {h : Heap} {R : Ending → Heap → Prop} (ha : args.size ≤ 2) (hh : aexec Tryz.prog ac80 (abody [(.slot 0)] R) ⟨initFr args.toList, []⟩ h) : HCalls Tryz.prog 80 args h R :=
  hcalls_of Tryz.func80 rfl rfl (by kernel_rfl) (by kernel_rfl) ha hh
/-- 81: credenza/credenzaref07.IsTarget -/
def ac81 : ACode :=
 (.seq (.ops [
  ⟨(some 1), (.box 25 (.tmp 0)), none⟩, 
  ⟨(some 2), (.mv (.const (.bool false))), none⟩])
 (.seq (.ops [
   ⟨(some 3), (.fieldAddr 0 (.tmp 1)), none⟩, 
   ⟨(some 4), (.load1 (.tmp 3)), none⟩, 
   ⟨(some 5), (.bin .eql (.tmp 4) (.const (.int .i64 3))), none⟩, 
   ⟨(some 6), (.mv (.tmp 5)), none⟩, 
   ⟨(some 7), (.fieldAddr 0 (.tmp 1)), (some (6, false))⟩, 
   ⟨(some 8), (.load1 (.tmp 7)), (some (6, false))⟩, 
   ⟨(some 9), (.bin .eql (.tmp 8) (.const (.int .i64 11))), (some (6, false))⟩, 
   ⟨(some 10), (.pick (.tmp 6) (.const (.bool true)) (.tmp 9)), none⟩, 
   ⟨(some 11), (.mv (.tmp 10)), none⟩, 
   ⟨(some 12), (.fieldAddr 0 (.tmp 1)), (some (11, false))⟩, 
   ⟨(some 13), (.load1 (.tmp 12)), (some (11, false))⟩, 
   ⟨(some 14), (.bin .eql (.tmp 13) (.const (.int .i64 12))), (some (11, false))⟩, 
   ⟨(some 15), (.pick (.tmp 11) (.const (.bool true)) (.tmp 14)), none⟩, 
   ⟨(some 2), (.mv (.tmp 15)), none⟩])
  .ret))
theorem c81 {args : Array Value} {h : Heap} {R : Ending → Heap → Prop} (ha : args.size ≤ 16) (hh : aexec Tryz.prog ac81 (abody [(.slot 2)] R) ⟨initFr args.toList, []⟩ h) : HCalls Tryz.prog 81 args h R :=
  hcalls_of Tryz.func81 rfl rfl (by kernel_rfl) (by kernel_rfl) ha hh
/-- 82: credenza/token.digit -/
def ac82 : ACode :=
 (.seq (.ops [
  ⟨(some 2), (.mv (.const (.bool false))), none⟩])
 (.seq (.ops [
   ⟨(some 3), (.mv (.tmp 0)), none⟩, 
   ⟨(some 4), (.bin .geq (.tmp 3) (.const (.int .u8 48))), none⟩, 
   ⟨(some 5), (.mv (.tmp 4)), none⟩, 
   ⟨(some 6), (.mv (.tmp 0)), (some (5, true))⟩, 
   ⟨(some 7), (.bin .leq (.tmp 6) (.const (.int .u8 57))), (some (5, true))⟩, 
   ⟨(some 8), (.pick (.tmp 5) (.tmp 7) (.const (.bool false))), none⟩, 
   ⟨(some 2), (.mv (.tmp 8)), none⟩])
  .ret))
theorem c82 {args : Array Value} {h : Heap} {R : Ending → Heap → Prop} (ha : args.size ≤ 9) (hh : aexec Tryz.prog ac82 (abody [(.slot 2)] R) ⟨initFr args.toList, []⟩ h) : HCalls Tryz.prog 82 args h R :=
  hcalls_of Tryz.func82 rfl rfl (by kernel_rfl) (by kernel_rfl) ha hh
/-- 98: math/bits.Len64 -/
def ac98 : ACode :=
 (.seq (.ops [
  ⟨(some 2), (.mv (.const (.int .i64 0))), none⟩])
 (.seq (.seq (.ops [
    ⟨(some 3), (.mv (.tmp 0)), none⟩, 
    ⟨(some 4), (.bin .geq (.tmp 3) (.const (.int .u64 4294967296))), none⟩])
   (.cond (.tmp 4)
    (.seq (.ops [
      ⟨(some 5), (.mv (.tmp 0)), none⟩, 
      ⟨(some 6), (.bin .shr (.tmp 5) (.const (.int .u64 32))), none⟩, 
      ⟨(some 0), (.mv (.tmp 6)), none⟩])
     (.ops [
      ⟨(some 2), (.mv (.const (.int .i64 32))), none⟩]))
    .skip))
  (.seq (.seq (.ops [
     ⟨(some 7), (.mv (.tmp 0)), none⟩, 
     ⟨(some 8), (.bin .geq (.tmp 7) (.const (.int .u64 65536))), none⟩])
    (.cond (.tmp 8)
     (.seq (.ops [
       ⟨(some 9), (.mv (.tmp 0)), none⟩, 
       ⟨(some 10), (.bin .shr (.tmp 9) (.const (.int .u64 16))), none⟩, 
       ⟨(some 0), (.mv (.tmp 10)), none⟩])
      (.ops [
       ⟨(some 11), (.mv (.tmp 2)), none⟩, 
       ⟨(some 12), (.bin .add (.tmp 11) (.const (.int .i64 16))), none⟩, 
       ⟨(some 2), (.mv (.tmp 12)), none⟩]))
     .skip))
   (.seq (.seq (.ops [
      ⟨(some 13), (.mv (.tmp 0)), none⟩, 
      ⟨(some 14), (.bin .geq (.tmp 13) (.const (.int .u64 256))), none⟩])
     (.cond (.tmp 14)
      (.seq (.ops [
        ⟨(some 15), (.mv (.tmp 0)), none⟩, 
        ⟨(some 16), (.bin .shr (.tmp 15) (.const (.int .u64 8))), none⟩, 
        ⟨(some 0), (.mv (.tmp 16)), none⟩])
       (.ops [
        ⟨(some 17), (.mv (.tmp 2)), none⟩, 
        ⟨(some 18), (.bin .add (.tmp 17) (.const (.int .i64 8))), none⟩, 
        ⟨(some 2), (.mv (.tmp 18)), none⟩]))
      .skip))
    (.seq (.ops [
      ⟨(some 19), (.mv (.tmp 2)), none⟩, 
      ⟨(some 20), (.mv (.tmp 0)), none⟩, 
      ⟨(some 21), (.convInt .u8 (.tmp 20)), none⟩, 
      ⟨(some 22), (.idxStr (.const (.string ⟨#[0, 1, 2, 2, 3, 3, 3, 3, 4, 4, 4, 4, 4, 4, 4, 4, 5, 5, 5, 5, 5, 5, 5, 5, 5, 5, 5, 5, 5, 5, 5, 5, 6, 6, 6, 6, 6, 6, 6, 6, 6, 6, 6, 6, 6, 6, 6, 6, 6, 6, 6, 6, 6, 6, 6, 6, 6, 6, 6, 6, 6, 6, 6, 6, 7, 7, 7, 7, 7, 7, 7, 7, 7, 7, 7, 7, 7, 7, 7, 7, 7, 7, 7, 7, 7, 7, 7, 7, 7, 7, 7, 7, 7, 7, 7, 7, 7, 7, 7, 7, 7, 7, 7, 7, 7, 7, 7, 7, 7, 7, 7, 7, 7, 7, 7, 7, 7, 7, 7, 7, 7, 7, 7, 7, 7, 7, 7, 7, 8, 8, 8, 8, 8, 8, 8, 8, 8, 8, 8, 8, 8, 8, 8, 8, 8, 8, 8, 8, 8, 8, 8, 8, 8, 8, 8, 8, 8, 8, 8, 8, 8, 8, 8, 8, 8, 8, 8, 8, 8, 8, 8, 8, 8, 8, 8, 8, 8, 8, 8, 8, 8, 8, 8, 8, 8, 8, 8, 8, 8, 8, 8, 8, 8, 8, 8, 8, 8, 8, 8, 8, 8, 8, 8, 8, 8, 8, 8, 8, 8, 8, 8, 8, 8, 8, 8, 8, 8, 8, 8, 8, 8, 8, 8, 8, 8, 8, 8, 8, 8, 8, 8, 8, 8, 8, 8, 8, 8, 8, 8, 8, 8, 8, 8, 8, 8, 8, 8, 8, 8, 8, 8, 8, 8, 8, 8, 8]⟩)) (.tmp 21)), none⟩, 
      ⟨(some 23), (.convInt .i64 (.tmp 22)), none⟩, 
      ⟨(some 24), (.bin .add (.tmp 19) (.tmp 23)), none⟩, 
      ⟨(some 2), (.mv (.tmp 24)), none⟩])
     .ret)))))
theorem c98 {args : Array Value} {h : Heap} {R : Ending → Heap → Prop} (ha : args.size ≤ 25) (hh : aexec Tryz.prog ac98 (abody [(.slot 2)] R) ⟨initFr args.toList, []⟩ h) : HCalls Tryz.prog 98 args h R :=
  hcalls_of Tryz.func98 rfl rfl (by kernel_rfl) (by kernel_rfl) ha hh
/-- 100: internal/bytealg.hashStr[string] -/
def ac100 : ACode :=
 (.seq (.ops [
  ⟨(some 2), (.mv (.const (.int .u32 0))), none⟩, 
  ⟨(some 3), (.mv (.const (.int .u32 0))), none⟩])
 (.seq (.ops [
   ⟨(some 4), (.mv (.const (.int .u32 0))), none⟩])
  (.seq (.seq (.ops [
     ⟨(some 5), (.mv (.const (.int .i64 0))), none⟩])
    (.block 0
     (.loop
      (.seq (.seq (.ops [
         ⟨(some 9), (.mv (.tmp 5)), none⟩, 
         ⟨(some 10), (.mv (.tmp 0)), none⟩, 
         ⟨(some 11), (.lenStr (.tmp 10)), none⟩, 
         ⟨(some 12), (.bin .lss (.tmp 9) (.tmp 11)), none⟩])
        (.cond (.tmp 12)
         .skip
         (.exit 0)))
       (.seq (.block 1
         (.ops [
          ⟨(some 15), (.mv (.tmp 4)), none⟩, 
          ⟨(some 16), (.bin .mul (.tmp 15) (.const (.int .u32 16777619))), none⟩, 
          ⟨(some 17), (.mv (.tmp 0)), none⟩, 
          ⟨(some 18), (.mv (.tmp 5)), none⟩, 
          ⟨(some 19), (.idxStr (.tmp 17) (.tmp 18)), none⟩, 
          ⟨(some 20), (.convInt .u32 (.tmp 19)), none⟩, 
          ⟨(some 21), (.bin .add (.tmp 16) (.tmp 20)), none⟩, 
          ⟨(some 4), (.mv (.tmp 21)), none⟩]))
        (.ops [
         ⟨(some 13), (.mv (.tmp 5)), none⟩, 
         ⟨(some 14), (.bin .add (.tmp 13) (.const (.int .i64 1))), none⟩, 
         ⟨(some 5), (.mv (.tmp 14)), none⟩]))))))
   (.seq (.ops [
     ⟨(some 6), (.mv (.const (.int .u32 1))), none⟩, 
     ⟨(some 7), (.mv (.const (.int .u32 16777619))), none⟩])
    (.seq (.seq (.ops [
       ⟨(some 22), (.mv (.tmp 0)), none⟩, 
       ⟨(some 23), (.lenStr (.tmp 22)), none⟩, 
       ⟨(some 8), (.mv (.tmp 23)), none⟩])
      (.block 2
       (.loop
        (.seq (.seq (.ops [
           ⟨(some 24), (.mv (.tmp 8)), none⟩, 
           ⟨(some 25), (.bin .gtr (.tmp 24) (.const (.int .i64 0))), none⟩])
          (.cond (.tmp 25)
           .skip
           (.exit 2)))
         (.seq (.block 3
           (.seq (.seq (.ops [
              ⟨(some 28), (.mv (.tmp 8)), none⟩, 
              ⟨(some 29), (.bin .and (.tmp 28) (.const (.int .i64 1))), none⟩, 
              ⟨(some 30), (.bin .neq (.tmp 29) (.const (.int .i64 0))), none⟩])
             (.cond (.tmp 30)
              (.ops [
               ⟨(some 31), (.mv (.tmp 6)), none⟩, 
               ⟨(some 32), (.mv (.tmp 7)), none⟩, 
               ⟨(some 33), (.bin .mul (.tmp 31) (.tmp 32)), none⟩, 
               ⟨(some 6), (.mv (.tmp 33)), none⟩])
              .skip))
            (.ops [
             ⟨(some 34), (.mv (.tmp 7)), none⟩, 
             ⟨(some 35), (.mv (.tmp 7)), none⟩, 
             ⟨(some 36), (.bin .mul (.tmp 34) (.tmp 35)), none⟩, 
             ⟨(some 7), (.mv (.tmp 36)), none⟩])))
          (.ops [
           ⟨(some 26), (.mv (.tmp 8)), none⟩, 
           ⟨(some 27), (.bin .shr (.tmp 26) (.const (.int .u64 1))), none⟩, 
           ⟨(some 8), (.mv (.tmp 27)), none⟩]))))))
     (.seq (.ops [
       ⟨(some 37), (.mv (.tmp 4)), none⟩, 
       ⟨(some 38), (.mv (.tmp 6)), none⟩, 
       ⟨(some 2), (.mv (.tmp 37)), none⟩, 
       ⟨(some 3), (.mv (.tmp 38)), none⟩])
      .ret))))))
theorem c100 {args : Array Value} {h : Heap} {R : Ending → Heap → Prop} (ha : args.size ≤ 39) (hh : aexec Tryz.prog ac100 (abody [(.slot 2), (.slot 3)] R) ⟨initFr args.toList, []⟩ h) : HCalls Tryz.prog 100 args h R :=
  hcalls_of Tryz.func100 rfl rfl (by kernel_rfl) (by kernel_rfl) ha hh
/-- 101: slices.siftDownOrdered[string] -/
def ac101 : ACode :=
 (.seq (.ops [
  ⟨(some 10), (.mv (.tmp 1)), none⟩, 
  ⟨(some 8), (.mv (.tmp 10)), none⟩])
 (.block 0
  (.loop
   (.block 1
    (.seq (.ops [
      ⟨(some 11), (.mv (.tmp 8)), none⟩, 
      ⟨(some 12), (.bin .mul (.const (.int .i64 2)) (.tmp 11)), none⟩, 
      ⟨(some 13), (.bin .add (.tmp 12) (.const (.int .i64 1))), none⟩, 
      ⟨(some 9), (.mv (.tmp 13)), none⟩])
     (.seq (.seq (.ops [
        ⟨(some 14), (.mv (.tmp 9)), none⟩, 
        ⟨(some 15), (.mv (.tmp 2)), none⟩, 
        ⟨(some 16), (.bin .geq (.tmp 14) (.tmp 15)), none⟩])
       (.cond (.tmp 16)
        (.exit 0)
        .skip))
      (.seq (.seq (.any [17, 18, 19, 20, 21, 22, 23, 24, 25, 26, 27, 28, 29, 30, 31, 32, 33, 34, 35, 36] [
         ⟨(some 17), (.mv (.tmp 9)), none⟩, 
         ⟨(some 18), (.bin .add (.tmp 17) (.const (.int .i64 1))), none⟩, 
         ⟨(some 19), (.mv (.tmp 2)), none⟩, 
         ⟨(some 20), (.bin .lss (.tmp 18) (.tmp 19)), none⟩, 
         ⟨(some 21), (.mv (.tmp 20)), none⟩, 
         ⟨(some 22), (.mv (.tmp 0)), (some (21, true))⟩, 
         ⟨(some 23), (.mv (.tmp 3)), (some (21, true))⟩, 
         ⟨(some 24), (.mv (.tmp 9)), (some (21, true))⟩, 
         ⟨(some 25), (.bin .add (.tmp 23) (.tmp 24)), (some (21, true))⟩, 
         ⟨(some 26), (.idxSl 1 (.tmp 22) (.tmp 25)), (some (21, true))⟩, 
         ⟨(some 27), (.load1 (.tmp 26)), (some (21, true))⟩, 
         ⟨(some 28), (.mv (.tmp 0)), (some (21, true))⟩, 
         ⟨(some 29), (.mv (.tmp 3)), (some (21, true))⟩, 
         ⟨(some 30), (.mv (.tmp 9)), (some (21, true))⟩, 
         ⟨(some 31), (.bin .add (.tmp 29) (.tmp 30)), (some (21, true))⟩, 
         ⟨(some 32), (.bin .add (.tmp 31) (.const (.int .i64 1))), (some (21, true))⟩, 
         ⟨(some 33), (.idxSl 1 (.tmp 28) (.tmp 32)), (some (21, true))⟩, 
         ⟨(some 34), (.load1 (.tmp 33)), (some (21, true))⟩, 
         ⟨(some 35), (.callF 94 [(.tmp 27), (.tmp 34)]), (some (21, true))⟩, 
         ⟨(some 36), (.pick (.tmp 21) (.tmp 35) (.const (.bool false))), none⟩])
        (.cond (.tmp 36)
         (.ops [
          ⟨(some 37), (.mv (.tmp 9)), none⟩, 
          ⟨(some 38), (.bin .add (.tmp 37) (.const (.int .i64 1))), none⟩, 
          ⟨(some 9), (.mv (.tmp 38)), none⟩])
         .skip))
       (.seq (.seq (.any [39, 40, 41, 42, 43, 44, 45, 46, 47, 48, 49, 50, 51, 52] [
          ⟨(some 39), (.mv (.tmp 0)), none⟩, 
          ⟨(some 40), (.mv (.tmp 3)), none⟩, 
          ⟨(some 41), (.mv (.tmp 8)), none⟩, 
          ⟨(some 42), (.bin .add (.tmp 40) (.tmp 41)), none⟩, 
          ⟨(some 43), (.idxSl 1 (.tmp 39) (.tmp 42)), none⟩, 
          ⟨(some 44), (.load1 (.tmp 43)), none⟩, 
          ⟨(some 45), (.mv (.tmp 0)), none⟩, 
          ⟨(some 46), (.mv (.tmp 3)), none⟩, 
          ⟨(some 47), (.mv (.tmp 9)), none⟩, 
          ⟨(some 48), (.bin .add (.tmp 46) (.tmp 47)), none⟩, 
          ⟨(some 49), (.idxSl 1 (.tmp 45) (.tmp 48)), none⟩, 
          ⟨(some 50), (.load1 (.tmp 49)), none⟩, 
          ⟨(some 51), (.callF 94 [(.tmp 44), (.tmp 50)]), none⟩, 
          ⟨(some 52), (.un .not (.tmp 51)), none⟩])
         (.cond (.tmp 52)
          .ret
          .skip))
        (.seq (.any [53, 54, 55, 56, 57, 58, 59, 60, 61, 62, 63, 64, 65, 66, 67, 68, 69, 70, 71, 72, 73, 74] [
          ⟨(some 53), (.mv (.tmp 0)), none⟩, 
          ⟨(some 54), (.mv (.tmp 3)), none⟩, 
          ⟨(some 55), (.mv (.tmp 8)), none⟩, 
          ⟨(some 56), (.bin .add (.tmp 54) (.tmp 55)), none⟩, 
          ⟨(some 57), (.mv (.tmp 0)), none⟩, 
          ⟨(some 58), (.mv (.tmp 3)), none⟩, 
          ⟨(some 59), (.mv (.tmp 9)), none⟩, 
          ⟨(some 60), (.bin .add (.tmp 58) (.tmp 59)), none⟩, 
          ⟨(some 61), (.mv (.tmp 0)), none⟩, 
          ⟨(some 62), (.mv (.tmp 3)), none⟩, 
          ⟨(some 63), (.mv (.tmp 9)), none⟩, 
          ⟨(some 64), (.bin .add (.tmp 62) (.tmp 63)), none⟩, 
          ⟨(some 65), (.idxSl 1 (.tmp 61) (.tmp 64)), none⟩, 
          ⟨(some 66), (.load1 (.tmp 65)), none⟩, 
          ⟨(some 67), (.mv (.tmp 0)), none⟩, 
          ⟨(some 68), (.mv (.tmp 3)), none⟩, 
          ⟨(some 69), (.mv (.tmp 8)), none⟩, 
          ⟨(some 70), (.bin .add (.tmp 68) (.tmp 69)), none⟩, 
          ⟨(some 71), (.idxSl 1 (.tmp 67) (.tmp 70)), none⟩, 
          ⟨(some 72), (.load1 (.tmp 71)), none⟩, 
          ⟨(some 73), (.idxSl 1 (.tmp 53) (.tmp 56)), none⟩, 
          ⟨none, (.store1 (.tmp 73) (.tmp 66)), none⟩, 
          ⟨(some 74), (.idxSl 1 (.tmp 57) (.tmp 60)), none⟩, 
          ⟨none, (.store1 (.tmp 74) (.tmp 72)), none⟩])
         (.ops [
          ⟨(some 75), (.mv (.tmp 9)), none⟩, 
          ⟨(some 8), (.mv (.tmp 75)), none⟩]))))))))))
theorem c101 {args : Array Value} {h : Heap} {R : Ending → Heap → Prop} (ha : args.size ≤ 76) (hh : aexec Tryz.prog ac101 (abody [] R) ⟨initFr args.toList, []⟩ h) : HCalls Tryz.prog 101 args h R :=
  hcalls_of Tryz.func101 rfl rfl (by kernel_rfl) (by kernel_rfl) ha hh
/-- 102: slices.nextPowerOfTwo -/
def ac102 : ACode :=
 (.seq (.ops [
  ⟨(some 2), (.mv (.const (.int .u64 0))), none⟩])
 (.seq (.ops [
   ⟨(some 3), (.mv (.tmp 0)), none⟩, 
   ⟨(some 4), (.convInt .u64 (.tmp 3)), none⟩, 
   ⟨(some 5), (.callF 76 [(.tmp 4)]), none⟩, 
   ⟨(some 6), (.bin .shl (.const (.int .u64 1)) (.tmp 5)), none⟩, 
   ⟨(some 2), (.mv (.tmp 6)), none⟩])
  .ret))
theorem c102 {args : Array Value} {h : Heap} {R : Ending → Heap → Prop} (ha : args.size ≤ 7) (hh : aexec Tryz.prog ac102 (abody [(.slot 2)] R) ⟨initFr args.toList, []⟩ h) : HCalls Tryz.prog 102 args h R :=
  hcalls_of Tryz.func102 rfl rfl (by kernel_rfl) (by kernel_rfl) ha hh
/-- 107: slices.order2Ordered[string] -/
def ac107 : ACode :=
 (.seq (.ops [
  ⟨(some 8), (.mv (.const (.int .i64 0))), none⟩, 
  ⟨(some 9), (.mv (.const (.int .i64 0))), none⟩])
 (.seq (.seq (.any [10, 11, 12, 13, 14, 15, 16, 17, 18] [
    ⟨(some 10), (.mv (.tmp 0)), none⟩, 
    ⟨(some 11), (.mv (.tmp 2)), none⟩, 
    ⟨(some 12), (.idxSl 1 (.tmp 10) (.tmp 11)), none⟩, 
    ⟨(some 13), (.load1 (.tmp 12)), none⟩, 
    ⟨(some 14), (.mv (.tmp 0)), none⟩, 
    ⟨(some 15), (.mv (.tmp 1)), none⟩, 
    ⟨(some 16), (.idxSl 1 (.tmp 14) (.tmp 15)), none⟩, 
    ⟨(some 17), (.load1 (.tmp 16)), none⟩, 
    ⟨(some 18), (.callF 94 [(.tmp 13), (.tmp 17)]), none⟩])
   (.cond (.tmp 18)
    (.seq (.ops [
      ⟨(some 19), (.mv (.tmp 3)), none⟩, 
      ⟨(some 20), (.nilCheck (.tmp 19)), none⟩, 
      ⟨(some 21), (.load1 (.tmp 20)), none⟩, 
      ⟨(some 22), (.bin .add (.tmp 21) (.const (.int .i64 1))), none⟩, 
      ⟨(some 23), (.nilCheck (.tmp 19)), none⟩, 
      ⟨none, (.store1 (.tmp 23) (.tmp 22)), none⟩])
     (.seq (.ops [
       ⟨(some 24), (.mv (.tmp 2)), none⟩, 
       ⟨(some 25), (.mv (.tmp 1)), none⟩, 
       ⟨(some 8), (.mv (.tmp 24)), none⟩, 
       ⟨(some 9), (.mv (.tmp 25)), none⟩])
      .ret))
    .skip))
  (.seq (.ops [
    ⟨(some 26), (.mv (.tmp 1)), none⟩, 
    ⟨(some 27), (.mv (.tmp 2)), none⟩, 
    ⟨(some 8), (.mv (.tmp 26)), none⟩, 
    ⟨(some 9), (.mv (.tmp 27)), none⟩])
   .ret)))
theorem c107 {args : Array Value} {h : Heap} {R : Ending → Heap → Prop} (ha : args.size ≤ 28) (hh : aexec Tryz.prog ac107 (abody [(.slot 8), (.slot 9)] R) ⟨initFr args.toList, []⟩ h) : HCalls Tryz.prog 107 args h R :=
  hcalls_of Tryz.func107 rfl rfl (by kernel_rfl) (by kernel_rfl) ha hh

end Go.Proofs.YtlogpojkkbcpjaaGreat.Hc
