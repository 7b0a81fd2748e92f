import Derived.Test.YtlogpojkkbcpjaaGreatProg
import Derived.Test.YtlogpojkkbcpjaaGreatHM
import Derived.Test.YtlogpojkkbcpjaaGreatHP
import Derived.Test.YtlogpojkkbcpjaaGreatHR
import Derived.KernelRfl
set_option linter.unusedVariables false
namespace Go.Proofs.YtlogpojkkbcpjaaGreat.Hc
open Go Go.H Go.Proofs
set_option maxRecDepth 100000
/-- 2: gosem.cut.init -/
def ac2 : ACode :=
 (.ops [
 ⟨(some 0), (.raw ⟨(some 0), (.call ⟨(.value (.func 1)), #[], #[]⟩), 0, "", #[], none⟩), none⟩])
theorem c2 {args : Array Value} {h : Heap} {R : Ending → Heap → Prop} (ha : args.size ≤ 1) (hh : aexec Tryz.prog ac2 (abody [] R) ⟨initFr args.toList, []⟩ h) : HCalls Tryz.prog 2 args h R :=
  hcalls_of Tryz.func2 rfl rfl (by kernel_rfl) (by kernel_rfl) ha hh
/-- 3: credenza/credenzalaw09.ScopeChecks -/
def ac3 : ACode :=
 (.seq (.ops [
  ⟨(some 1), (.box 25 (.tmp 0)), none⟩, 
  ⟨(some 2), (.mv (.const (.bool false))), none⟩])
 (.seq (.seq (.any [3, 4, 5, 6, 7, 8, 9, 10, 2] [
    ⟨(some 3), (.callF 4 []), none⟩, 
    ⟨(some 4), (.mv (.tmp 3)), none⟩, 
    ⟨(some 5), (.loadN 6 (.tmp 1)), (some (4, true))⟩])
   (.alt
    (.any [3, 4, 5, 6, 7, 8, 9, 10, 2] [
     ⟨(some 6), (.callF 5 [(.tmp 5)]), (some (4, true))⟩, 
     ⟨(some 7), (.loadN 6 (.tmp 1)), (some (4, true))⟩, 
     ⟨(some 8), (.callF 6 [(.tmp 7)]), (some (4, true))⟩, 
     ⟨(some 9), (.bin .eql (.tmp 6) (.tmp 8)), (some (4, true))⟩, 
     ⟨(some 10), (.pick (.tmp 4) (.tmp 9) (.const (.bool false))), none⟩, 
     ⟨(some 2), (.mv (.tmp 10)), none⟩])
    (.any [3, 4, 5, 6, 7, 8, 9, 10, 2] [
     ⟨(some 7), (.loadN 6 (.tmp 1)), (some (4, true))⟩, 
     ⟨(some 6), (.callF 5 [(.tmp 5)]), (some (4, true))⟩, 
     ⟨(some 8), (.callF 6 [(.tmp 7)]), (some (4, true))⟩, 
     ⟨(some 9), (.bin .eql (.tmp 6) (.tmp 8)), (some (4, true))⟩, 
     ⟨(some 10), (.pick (.tmp 4) (.tmp 9) (.const (.bool false))), none⟩, 
     ⟨(some 2), (.mv (.tmp 10)), none⟩])))
  .ret))
theorem c3 {args : Array Value} {h : Heap} {R : Ending → Heap → Prop} (ha : args.size ≤ 11) (hh : aexec Tryz.prog ac3 (abody [(.slot 2)] R) ⟨initFr args.toList, []⟩ h) : HCalls Tryz.prog 3 args h R :=
  hcalls_of Tryz.func3 rfl rfl (by kernel_rfl) (by kernel_rfl) ha hh
/-- 4: credenza/credenzalaw09.live -/
def ac4 : ACode :=
 (.seq (.ops [
  ⟨(some 0), (.mv (.const (.bool false))), none⟩])
 (.seq (.ops [
   ⟨(some 4), (.build [(.int .i64 0), (.string ⟨#[]⟩), (.int .i64 0), (.string ⟨#[]⟩), (.slice none 0 0), (.slice none 0 0)] [(0, 1, (.const (.int .i64 31)))]), none⟩, 
   ⟨(some 1), (.new 25 [(.int .i64 0), (.string ⟨#[]⟩), (.int .i64 0), (.string ⟨#[]⟩), (.slice none 0 0), (.slice none 0 0)]), none⟩, 
   ⟨none, (.storeN 6 (.tmp 1) (.tmp 4)), none⟩])
  (.seq (.ops [
    ⟨(some 5), (.build [(.int .i64 0), (.string ⟨#[]⟩), (.int .i64 0), (.string ⟨#[]⟩), (.slice none 0 0), (.slice none 0 0)] [(0, 1, (.const (.int .i64 1))), (2, 1, (.const (.int .i64 1)))]), none⟩, 
    ⟨(some 6), (.loadN 6 (.tmp 1)), none⟩, 
    ⟨(some 7), (.buildSlice 25 1 [(.int .i64 0), (.string ⟨#[]⟩), (.int .i64 0), (.string ⟨#[]⟩), (.slice none 0 0), (.slice none 0 0)] [(0, 6, (.tmp 6))]), none⟩, 
    ⟨(some 8), (.build [(.int .i64 0), (.string ⟨#[]⟩), (.int .i64 0), (.string ⟨#[]⟩), (.slice none 0 0), (.slice none 0 0)] [(0, 1, (.const (.int .i64 25))), (5, 1, (.tmp 7))]), none⟩, 
    ⟨(some 9), (.buildSlice 25 2 [(.int .i64 0), (.string ⟨#[]⟩), (.int .i64 0), (.string ⟨#[]⟩), (.slice none 0 0), (.slice none 0 0), (.int .i64 0), (.string ⟨#[]⟩), (.int .i64 0), (.string ⟨#[]⟩), (.slice none 0 0), (.slice none 0 0)] [(0, 6, (.tmp 5)), (6, 6, (.tmp 8))]), none⟩, 
    ⟨(some 10), (.build [(.int .i64 0), (.string ⟨#[]⟩), (.int .i64 0), (.string ⟨#[]⟩), (.slice none 0 0), (.slice none 0 0)] [(0, 1, (.const (.int .i64 27))), (5, 1, (.tmp 9))]), none⟩, 
    ⟨(some 2), (.new 25 [(.int .i64 0), (.string ⟨#[]⟩), (.int .i64 0), (.string ⟨#[]⟩), (.slice none 0 0), (.slice none 0 0)]), none⟩, 
    ⟨none, (.storeN 6 (.tmp 2) (.tmp 10)), none⟩])
   (.seq (.ops [
     ⟨(some 11), (.build [(.int .i64 0), (.string ⟨#[]⟩), (.int .i64 0), (.string ⟨#[]⟩), (.slice none 0 0), (.slice none 0 0)] [(0, 1, (.const (.int .i64 23))), (1, 1, (.const (.string ⟨#[120]⟩)))]), none⟩, 
     ⟨(some 12), (.buildSlice 25 1 [(.int .i64 0), (.string ⟨#[]⟩), (.int .i64 0), (.string ⟨#[]⟩), (.slice none 0 0), (.slice none 0 0)] [(0, 6, (.tmp 11))]), none⟩, 
     ⟨(some 13), (.build [(.int .i64 0), (.string ⟨#[]⟩), (.int .i64 0), (.string ⟨#[]⟩), (.slice none 0 0), (.slice none 0 0)] [(0, 1, (.const (.int .i64 22))), (5, 1, (.tmp 12))]), none⟩, 
     ⟨(some 3), (.new 25 [(.int .i64 0), (.string ⟨#[]⟩), (.int .i64 0), (.string ⟨#[]⟩), (.slice none 0 0), (.slice none 0 0)]), none⟩, 
     ⟨none, (.storeN 6 (.tmp 3) (.tmp 13)), none⟩])
    (.seq (.ops [
      ⟨(some 14), (.loadN 6 (.tmp 2)), none⟩, 
      ⟨(some 15), (.buildSlice 25 1 [(.int .i64 0), (.string ⟨#[]⟩), (.int .i64 0), (.string ⟨#[]⟩), (.slice none 0 0), (.slice none 0 0)] [(0, 6, (.tmp 14))]), none⟩, 
      ⟨(some 16), (.build [(.int .i64 0), (.string ⟨#[]⟩), (.int .i64 0), (.string ⟨#[]⟩), (.slice none 0 0), (.slice none 0 0)] [(0, 1, (.const (.int .i64 41))), (5, 1, (.tmp 15))]), none⟩, 
      ⟨(some 17), (.callF 5 [(.tmp 16)]), none⟩, 
      ⟨(some 18), (.bin .eql (.tmp 17) (.const (.int .i64 0))), none⟩, 
      ⟨(some 19), (.mv (.tmp 18)), none⟩, 
      ⟨(some 20), (.loadN 6 (.tmp 1)), (some (19, true))⟩, 
      ⟨(some 21), (.buildSlice 25 1 [(.int .i64 0), (.string ⟨#[]⟩), (.int .i64 0), (.string ⟨#[]⟩), (.slice none 0 0), (.slice none 0 0)] [(0, 6, (.tmp 20))]), (some (19, true))⟩, 
      ⟨(some 22), (.build [(.int .i64 0), (.string ⟨#[]⟩), (.int .i64 0), (.string ⟨#[]⟩), (.slice none 0 0), (.slice none 0 0)] [(0, 1, (.const (.int .i64 41))), (5, 1, (.tmp 21))]), (some (19, true))⟩, 
      ⟨(some 23), (.callF 5 [(.tmp 22)]), (some (19, true))⟩, 
      ⟨(some 24), (.bin .eql (.tmp 23) (.const (.int .i64 90))), (some (19, true))⟩, 
      ⟨(some 25), (.pick (.tmp 19) (.tmp 24) (.const (.bool false))), none⟩, 
      ⟨(some 26), (.mv (.tmp 25)), none⟩, 
      ⟨(some 27), (.loadN 6 (.tmp 2)), (some (26, true))⟩, 
      ⟨(some 28), (.loadN 6 (.tmp 3)), (some (26, true))⟩, 
      ⟨(some 29), (.buildSlice 25 2 [(.int .i64 0), (.string ⟨#[]⟩), (.int .i64 0), (.string ⟨#[]⟩), (.slice none 0 0), (.slice none 0 0), (.int .i64 0), (.string ⟨#[]⟩), (.int .i64 0), (.string ⟨#[]⟩), (.slice none 0 0), (.slice none 0 0)] [(0, 6, (.tmp 27)), (6, 6, (.tmp 28))]), (some (26, true))⟩, 
      ⟨(some 30), (.callF 8 [(.tmp 29)]), (some (26, true))⟩, 
      ⟨(some 31), (.buildSlice 9 1 [(.string ⟨#[]⟩)] [(0, 1, (.const (.string ⟨#[120]⟩)))]), (some (26, true))⟩, 
      ⟨(some 32), (.callF 7 [(.tmp 30), (.tmp 31)]), (some (26, true))⟩, 
      ⟨(some 33), (.pick (.tmp 26) (.tmp 32) (.const (.bool false))), none⟩, 
      ⟨(some 0), (.mv (.tmp 33)), none⟩])
     .ret)))))
theorem c4 {args : Array Value} {h : Heap} {R : Ending → Heap → Prop} (ha : args.size ≤ 34) (hh : aexec Tryz.prog ac4 (abody [(.slot 0)] R) ⟨initFr args.toList, []⟩ h) : HCalls Tryz.prog 4 args h R :=
  hcalls_of Tryz.func4 rfl rfl (by kernel_rfl) (by kernel_rfl) ha hh
/-- 5: credenza/scope.Check -/
def ac5 : ACode :=
 (.seq (.ops [
  ⟨(some 1), (.box 25 (.tmp 0)), none⟩, 
  ⟨(some 2), (.new 27 [(.int .i64 0)]), none⟩])
 (.seq (.seq (.ops [
    ⟨(some 5), (.loadN 6 (.tmp 1)), none⟩, 
    ⟨(some 6), (.callF 9 [(.tmp 5)]), none⟩, 
    ⟨(some 3), (.mv (.tmp 6)), none⟩])
   (.seq (.ops [
     ⟨(some 7), (.mv (.tmp 3)), none⟩, 
     ⟨(some 8), (.bin .neq (.tmp 7) (.const (.int .i64 0))), none⟩])
    (.cond (.tmp 8)
     (.seq (.ops [
       ⟨(some 9), (.mv (.tmp 3)), none⟩, 
       ⟨none, (.store1 (.tmp 2) (.tmp 9)), none⟩])
      .ret)
     .skip)))
  (.seq (.seq (.ops [
     ⟨(some 10), (.loadN 6 (.tmp 1)), none⟩, 
     ⟨(some 11), (.callF 10 [(.tmp 10)]), none⟩])
    (.block 0
     (.range (.tmp 11) [12]
      (.ops [
       ⟨(some 4), (.new 37 [(.int .i64 0), (.string ⟨#[]⟩), (.int .i64 0), (.string ⟨#[]⟩), (.slice none 0 0), (.slice none 0 0), (.pointer none), (.bool false), (.bool false), (.bool false)]), none⟩, 
       ⟨none, (.storeN 10 (.tmp 4) (.tmp 12)), none⟩])
      (.block 1
       (.seq (.ops [
         ⟨(some 13), (.loadN 10 (.tmp 4)), none⟩, 
         ⟨(some 14), (.callF 11 [(.tmp 13)]), none⟩])
        (.cond (.tmp 14)
         (.seq (.ops [
           ⟨none, (.store1 (.tmp 2) (.const (.int .i64 90))), none⟩])
          .ret)
         .skip))))))
   (.seq (.ops [
     ⟨none, (.store1 (.tmp 2) (.const (.int .i64 0))), none⟩])
    .ret))))
theorem c5 {args : Array Value} {h : Heap} {R : Ending → Heap → Prop} (ha : args.size ≤ 15) (hh : aexec Tryz.prog ac5 (abodyM [(.cell1 2)] R) ⟨initFr args.toList, []⟩ h) : HCalls Tryz.prog 5 args h R :=
  hcalls_of_m Tryz.func5 rfl rfl (by kernel_rfl) (by kernel_rfl) ha hh
/-- 6: credenza/credenzaref09.Check -/
def ac6 : ACode :=
 (.seq (.ops [
  ⟨(some 1), (.box 25 (.tmp 0)), none⟩, 
  ⟨(some 2), (.mv (.const (.int .i64 0))), none⟩])
 (.seq (.seq (.ops [
    ⟨(some 4), (.loadN 6 (.tmp 1)), none⟩, 
    ⟨(some 5), (.callF 12 [(.tmp 4)]), none⟩, 
    ⟨(some 3), (.mv (.tmp 5)), none⟩])
   (.seq (.ops [
     ⟨(some 6), (.mv (.tmp 3)), none⟩, 
     ⟨(some 7), (.bin .neq (.tmp 6) (.const (.int .i64 0))), none⟩])
    (.cond (.tmp 7)
     (.seq (.ops [
       ⟨(some 8), (.mv (.tmp 3)), none⟩, 
       ⟨(some 2), (.mv (.tmp 8)), none⟩])
      .ret)
     .skip)))
  (.seq (.seq (.ops [
     ⟨(some 9), (.loadN 6 (.tmp 1)), none⟩, 
     ⟨(some 10), (.build [(.slice none 0 0), (.slice none 0 0), (.bool false), (.bool false), (.bool false)] []), none⟩, 
     ⟨(some 11), (.callF 13 [(.tmp 9), (.tmp 10)]), none⟩, 
     ⟨(some 12), (.un .not (.tmp 11)), none⟩])
    (.cond (.tmp 12)
     (.seq (.ops [
       ⟨(some 2), (.mv (.const (.int .i64 90))), none⟩])
      .ret)
     .skip))
   (.seq (.ops [
     ⟨(some 2), (.mv (.const (.int .i64 0))), none⟩])
    .ret))))
theorem c6 {args : Array Value} {h : Heap} {R : Ending → Heap → Prop} (ha : args.size ≤ 13) (hh : aexec Tryz.prog ac6 (abody [(.slot 2)] R) ⟨initFr args.toList, []⟩ h) : HCalls Tryz.prog 6 args h R :=
  hcalls_of Tryz.func6 rfl rfl (by kernel_rfl) (by kernel_rfl) ha hh
/-- 7: credenza/credenzaref09.SameNames -/
def ac7 : ACode :=
 (.seq (.ops [
  ⟨(some 4), (.mv (.const (.bool false))), none⟩])
 (.seq (.seq (.ops [
    ⟨(some 6), (.mv (.tmp 0)), none⟩, 
    ⟨(some 7), (.lenSl (.tmp 6)), none⟩, 
    ⟨(some 8), (.mv (.tmp 1)), none⟩, 
    ⟨(some 9), (.lenSl (.tmp 8)), none⟩, 
    ⟨(some 10), (.bin .neq (.tmp 7) (.tmp 9)), none⟩])
   (.cond (.tmp 10)
    (.seq (.ops [
      ⟨(some 4), (.mv (.const (.bool false))), none⟩])
     .ret)
    .skip))
  (.seq (.seq (.ops [
     ⟨(some 11), (.mv (.tmp 0)), none⟩, 
     ⟨(some 12), (.lenSl (.tmp 11)), none⟩, 
     ⟨(some 13), (.mv (.const (.int .i64 0))), none⟩])
    (.block 0
     (.loop
      (.seq (.ops [
        ⟨(some 14), (.bin .lss (.tmp 13) (.tmp 12)), none⟩])
       (.seq (.cond (.tmp 14)
         .skip
         (.exit 0))
        (.seq (.block 1
          (.seq (.ops [
            ⟨(some 15), (.mv (.tmp 13)), none⟩, 
            ⟨(some 5), (.mv (.tmp 15)), none⟩])
           (.seq (.any [16, 17, 18, 19, 20, 21, 22, 23, 24] [
             ⟨(some 16), (.mv (.tmp 0)), none⟩, 
             ⟨(some 17), (.mv (.tmp 5)), none⟩, 
             ⟨(some 18), (.idxSl 1 (.tmp 16) (.tmp 17)), none⟩, 
             ⟨(some 19), (.load1 (.tmp 18)), none⟩, 
             ⟨(some 20), (.mv (.tmp 1)), none⟩, 
             ⟨(some 21), (.mv (.tmp 5)), none⟩, 
             ⟨(some 22), (.idxSl 1 (.tmp 20) (.tmp 21)), none⟩, 
             ⟨(some 23), (.load1 (.tmp 22)), none⟩, 
             ⟨(some 24), (.bin .neq (.tmp 19) (.tmp 23)), none⟩])
            (.cond (.tmp 24)
             (.seq (.ops [
               ⟨(some 4), (.mv (.const (.bool false))), none⟩])
              .ret)
             .skip))))
         (.ops [
          ⟨(some 25), (.bin .add (.tmp 13) (.const (.int .i64 1))), none⟩, 
          ⟨(some 13), (.mv (.tmp 25)), none⟩])))))))
   (.seq (.ops [
     ⟨(some 4), (.mv (.const (.bool true))), none⟩])
    .ret))))
theorem c7 {args : Array Value} {h : Heap} {R : Ending → Heap → Prop} (ha : args.size ≤ 26) (hh : aexec Tryz.prog ac7 (abody [(.slot 4)] R) ⟨initFr args.toList, []⟩ h) : HCalls Tryz.prog 7 args h R :=
  hcalls_of Tryz.func7 rfl rfl (by kernel_rfl) (by kernel_rfl) ha hh
/-- 8: credenza/scope.Vars -/
def ac8 : ACode :=
 (.seq (.ops [
  ⟨(some 2), (.mv (.const (.slice none 0 0))), none⟩])
 (.seq (.seq (.ops [
    ⟨(some 7), (.mv (.tmp 0)), none⟩, 
    ⟨(some 8), (.lenSl (.tmp 7)), none⟩, 
    ⟨(some 9), (.mv (.const (.int .i64 0))), none⟩])
   (.block 0
    (.loop
     (.seq (.ops [
       ⟨(some 10), (.bin .lss (.tmp 9) (.tmp 8)), none⟩])
      (.seq (.cond (.tmp 10)
        .skip
        (.exit 0))
       (.seq (.block 1
         (.seq (.ops [
           ⟨(some 11), (.idxSl 6 (.tmp 7) (.tmp 9)), none⟩, 
           ⟨(some 12), (.loadN 6 (.tmp 11)), none⟩, 
           ⟨(some 4), (.new 25 [(.int .i64 0), (.string ⟨#[]⟩), (.int .i64 0), (.string ⟨#[]⟩), (.slice none 0 0), (.slice none 0 0)]), none⟩, 
           ⟨none, (.storeN 6 (.tmp 4) (.tmp 12)), none⟩])
          (.seq (.seq (.ops [
             ⟨(some 13), (.fieldAddr 0 (.tmp 4)), none⟩, 
             ⟨(some 14), (.load1 (.tmp 13)), none⟩])
            (.block 2
             (.seq (.seq (.ops [
                ⟨(some 16), (.bin .eql (.tmp 14) (.const (.int .i64 39))), none⟩, 
                ⟨(some 15), (.mv (.tmp 16)), none⟩])
               (.cond (.tmp 15)
                .skip
                (.ops [
                 ⟨(some 17), (.bin .eql (.tmp 14) (.const (.int .i64 10))), none⟩, 
                 ⟨(some 15), (.mv (.tmp 17)), none⟩])))
              (.cond (.tmp 15)
               (.exit 1)
               (.seq (.ops [
                 ⟨(some 19), (.bin .eql (.tmp 14) (.const (.int .i64 23))), none⟩, 
                 ⟨(some 18), (.mv (.tmp 19)), none⟩])
                (.cond (.tmp 18)
                 (.seq (.ops [
                   ⟨(some 20), (.mv (.tmp 2)), none⟩, 
                   ⟨(some 21), (.fieldAddr 1 (.tmp 4)), none⟩, 
                   ⟨(some 22), (.load1 (.tmp 21)), none⟩, 
                   ⟨(some 23), (.callF 14 [(.tmp 20), (.tmp 22)]), none⟩, 
                   ⟨(some 24), (.un .not (.tmp 23)), none⟩])
                  (.cond (.tmp 24)
                   (.ops [
                    ⟨(some 25), (.mv (.tmp 2)), none⟩, 
                    ⟨(some 26), (.fieldAddr 1 (.tmp 4)), none⟩, 
                    ⟨(some 27), (.load1 (.tmp 26)), none⟩, 
                    ⟨(some 28), (.buildSlice 9 1 [(.string ⟨#[]⟩)] [(0, 1, (.tmp 27))]), none⟩, 
                    ⟨(some 29), (.append 9 1 16 [(.string ⟨#[]⟩)] (.tmp 25) (.tmp 28)), none⟩, 
                    ⟨(some 2), (.mv (.tmp 29)), none⟩])
                   .skip))
                 .skip))))))
           (.seq (.ops [
             ⟨(some 30), (.fieldAddr 5 (.tmp 4)), none⟩, 
             ⟨(some 31), (.load1 (.tmp 30)), none⟩, 
             ⟨(some 32), (.callF 8 [(.tmp 31)]), none⟩, 
             ⟨(some 33), (.lenSl (.tmp 32)), none⟩, 
             ⟨(some 34), (.mv (.const (.int .i64 0))), none⟩])
            (.block 3
             (.loop
              (.seq (.ops [
                ⟨(some 35), (.bin .lss (.tmp 34) (.tmp 33)), none⟩])
               (.seq (.cond (.tmp 35)
                 .skip
                 (.exit 3))
                (.seq (.block 4
                  (.seq (.ops [
                    ⟨(some 36), (.idxSl 1 (.tmp 32) (.tmp 34)), none⟩, 
                    ⟨(some 37), (.load1 (.tmp 36)), none⟩, 
                    ⟨(some 6), (.mv (.tmp 37)), none⟩])
                   (.seq (.ops [
                     ⟨(some 38), (.mv (.tmp 2)), none⟩, 
                     ⟨(some 39), (.mv (.tmp 6)), none⟩, 
                     ⟨(some 40), (.callF 14 [(.tmp 38), (.tmp 39)]), none⟩, 
                     ⟨(some 41), (.un .not (.tmp 40)), none⟩])
                    (.cond (.tmp 41)
                     (.ops [
                      ⟨(some 42), (.mv (.tmp 2)), none⟩, 
                      ⟨(some 43), (.mv (.tmp 6)), none⟩, 
                      ⟨(some 44), (.buildSlice 9 1 [(.string ⟨#[]⟩)] [(0, 1, (.tmp 43))]), none⟩, 
                      ⟨(some 45), (.append 9 1 16 [(.string ⟨#[]⟩)] (.tmp 42) (.tmp 44)), none⟩, 
                      ⟨(some 2), (.mv (.tmp 45)), none⟩])
                     .skip))))
                 (.ops [
                  ⟨(some 46), (.bin .add (.tmp 34) (.const (.int .i64 1))), none⟩, 
                  ⟨(some 34), (.mv (.tmp 46)), none⟩]))))))))))
        (.ops [
         ⟨(some 47), (.bin .add (.tmp 9) (.const (.int .i64 1))), none⟩, 
         ⟨(some 9), (.mv (.tmp 47)), none⟩])))))))
  (.seq (.ops [
    ⟨(some 48), (.mv (.tmp 2)), none⟩, 
    ⟨(some 2), (.mv (.tmp 48)), none⟩])
   .ret)))
theorem c8 {args : Array Value} {h : Heap} {R : Ending → Heap → Prop} (ha : args.size ≤ 49) (hh : aexec Tryz.prog ac8 (abody [(.slot 2)] R) ⟨initFr args.toList, []⟩ h) : HCalls Tryz.prog 8 args h R :=
  hcalls_of Tryz.func8 rfl rfl (by kernel_rfl) (by kernel_rfl) ha hh
/-- 9: credenza/tree.Check -/
def ac9 : ACode :=
 (.seq (.ops [
  ⟨(some 1), (.box 25 (.tmp 0)), none⟩, 
  ⟨(some 2), (.mv (.const (.int .i64 0))), none⟩])
 (.seq (.block 0
   (.seq (.ops [
     ⟨(some 4), (.fieldAddr 0 (.tmp 1)), none⟩, 
     ⟨(some 5), (.load1 (.tmp 4)), none⟩, 
     ⟨(some 6), (.bin .neq (.tmp 5) (.const (.int .i64 41))), none⟩, 
     ⟨(some 7), (.mv (.tmp 6)), none⟩, 
     ⟨(some 8), (.loadN 6 (.tmp 1)), (some (7, false))⟩, 
     ⟨(some 9), (.callF 15 [(.tmp 8)]), (some (7, false))⟩, 
     ⟨(some 10), (.un .not (.tmp 9)), (some (7, false))⟩, 
     ⟨(some 11), (.pick (.tmp 7) (.const (.bool true)) (.tmp 10)), none⟩, 
     ⟨(some 3), (.mv (.tmp 11)), none⟩])
    (.cond (.tmp 3)
     (.seq (.ops [
       ⟨(some 2), (.mv (.const (.int .i64 70))), none⟩])
      .ret)
     (.seq (.ops [
       ⟨(some 13), (.loadN 6 (.tmp 1)), none⟩, 
       ⟨(some 14), (.callF 16 [(.tmp 13)]), none⟩, 
       ⟨(some 15), (.bin .gtr (.tmp 14) (.const (.int .i64 64))), none⟩, 
       ⟨(some 12), (.mv (.tmp 15)), none⟩])
      (.cond (.tmp 12)
       (.seq (.ops [
         ⟨(some 2), (.mv (.const (.int .i64 31))), none⟩])
        .ret)
       .skip)))))
  (.seq (.ops [
    ⟨(some 2), (.mv (.const (.int .i64 0))), none⟩])
   .ret)))
theorem c9 {args : Array Value} {h : Heap} {R : Ending → Heap → Prop} (ha : args.size ≤ 16) (hh : aexec Tryz.prog ac9 (abody [(.slot 2)] R) ⟨initFr args.toList, []⟩ h) : HCalls Tryz.prog 9 args h R :=
  hcalls_of Tryz.func9 rfl rfl (by kernel_rfl) (by kernel_rfl) ha hh
/-- 10: credenza/scope.all -/
def ac10 : ACode :=
 (.seq (.ops [
  ⟨(some 1), (.box 25 (.tmp 0)), none⟩, 
  ⟨(some 2), (.mv (.const .nilFunc)), none⟩])
 (.seq (.ops [
   ⟨(some 3), (.mkFunc (.func 17) [] [(.tmp 1)]), none⟩, 
   ⟨(some 2), (.mv (.tmp 3)), none⟩])
  .ret))
theorem c10 {args : Array Value} {h : Heap} {R : Ending → Heap → Prop} (ha : args.size ≤ 4) (hh : aexec Tryz.prog ac10 (abody [(.slot 2)] R) ⟨initFr args.toList, []⟩ h) : HCalls Tryz.prog 10 args h R :=
  hcalls_of Tryz.func10 rfl rfl (by kernel_rfl) (by kernel_rfl) ha hh
/-- 11: credenza/scope.early -/
def ac11 : ACode :=
 (.seq (.ops [
  ⟨(some 1), (.box 37 (.tmp 0)), none⟩, 
  ⟨(some 2), (.mv (.const (.bool false))), none⟩])
 (.seq (.ops [
   ⟨(some 8), (.fieldAddr 0 (.tmp 1)), none⟩, 
   ⟨(some 9), (.loadN 6 (.tmp 8)), none⟩, 
   ⟨(some 3), (.new 25 [(.int .i64 0), (.string ⟨#[]⟩), (.int .i64 0), (.string ⟨#[]⟩), (.slice none 0 0), (.slice none 0 0)]), none⟩, 
   ⟨none, (.storeN 6 (.tmp 3) (.tmp 9)), none⟩])
  (.seq (.seq (.ops [
     ⟨(some 10), (.fieldAddr 0 (.tmp 3)), none⟩, 
     ⟨(some 11), (.load1 (.tmp 10)), none⟩])
    (.block 0
     (.seq (.seq (.ops [
        ⟨(some 13), (.bin .eql (.tmp 11) (.const (.int .i64 23))), none⟩, 
        ⟨(some 12), (.mv (.tmp 13)), none⟩])
       (.cond (.tmp 12)
        .skip
        (.ops [
         ⟨(some 14), (.bin .eql (.tmp 11) (.const (.int .i64 35))), none⟩, 
         ⟨(some 12), (.mv (.tmp 14)), none⟩])))
      (.cond (.tmp 12)
       (.seq (.ops [
         ⟨(some 15), (.fieldAddr 1 (.tmp 3)), none⟩, 
         ⟨(some 16), (.load1 (.tmp 15)), none⟩, 
         ⟨(some 17), (.callF 19 [(.tmp 16)]), none⟩, 
         ⟨(some 2), (.mv (.tmp 17)), none⟩])
        .ret)
       (.seq (.seq (.ops [
          ⟨(some 19), (.bin .eql (.tmp 11) (.const (.int .i64 39))), none⟩, 
          ⟨(some 18), (.mv (.tmp 19)), none⟩])
         (.cond (.tmp 18)
          .skip
          (.ops [
           ⟨(some 20), (.bin .eql (.tmp 11) (.const (.int .i64 10))), none⟩, 
           ⟨(some 18), (.mv (.tmp 20)), none⟩])))
        (.cond (.tmp 18)
         (.seq (.ops [
           ⟨(some 21), (.fieldAddr 1 (.tmp 3)), none⟩, 
           ⟨(some 22), (.load1 (.tmp 21)), none⟩, 
           ⟨(some 23), (.callF 19 [(.tmp 22)]), none⟩, 
           ⟨(some 24), (.mv (.tmp 23)), none⟩, 
           ⟨(some 25), (.fieldAddr 4 (.tmp 3)), (some (24, false))⟩, 
           ⟨(some 26), (.load1 (.tmp 25)), (some (24, false))⟩, 
           ⟨(some 27), (.callF 20 [(.tmp 26), (.func 19)]), (some (24, false))⟩, 
           ⟨(some 28), (.pick (.tmp 24) (.const (.bool true)) (.tmp 27)), none⟩, 
           ⟨(some 29), (.mv (.tmp 28)), none⟩, 
           ⟨(some 30), (.fieldAddr 4 (.tmp 3)), (some (29, false))⟩, 
           ⟨(some 31), (.load1 (.tmp 30)), (some (29, false))⟩, 
           ⟨(some 32), (.callF 21 [(.tmp 31)]), (some (29, false))⟩, 
           ⟨(some 33), (.un .not (.tmp 32)), (some (29, false))⟩, 
           ⟨(some 34), (.pick (.tmp 29) (.const (.bool true)) (.tmp 33)), none⟩, 
           ⟨(some 2), (.mv (.tmp 34)), none⟩])
          .ret)
         (.seq (.seq (.ops [
            ⟨(some 36), (.bin .eql (.tmp 11) (.const (.int .i64 20))), none⟩, 
            ⟨(some 35), (.mv (.tmp 36)), none⟩])
           (.cond (.tmp 35)
            .skip
            (.seq (.ops [
              ⟨(some 37), (.bin .eql (.tmp 11) (.const (.int .i64 16))), none⟩, 
              ⟨(some 35), (.mv (.tmp 37)), none⟩])
             (.cond (.tmp 35)
              .skip
              (.ops [
               ⟨(some 38), (.bin .eql (.tmp 11) (.const (.int .i64 30))), none⟩, 
               ⟨(some 35), (.mv (.tmp 38)), none⟩])))))
          (.cond (.tmp 35)
           (.seq (.ops [
             ⟨(some 39), (.fieldAddr 5 (.tmp 3)), none⟩, 
             ⟨(some 40), (.load1 (.tmp 39)), none⟩, 
             ⟨(some 41), (.idxSl 6 (.tmp 40) (.const (.int .i64 0))), none⟩, 
             ⟨(some 42), (.fieldAddr 0 (.tmp 41)), none⟩, 
             ⟨(some 43), (.load1 (.tmp 42)), none⟩, 
             ⟨(some 44), (.bin .eql (.tmp 43) (.const (.int .i64 3))), none⟩, 
             ⟨(some 45), (.mv (.tmp 44)), none⟩, 
             ⟨(some 46), (.fieldAddr 5 (.tmp 3)), (some (45, true))⟩, 
             ⟨(some 47), (.load1 (.tmp 46)), (some (45, true))⟩, 
             ⟨(some 48), (.idxSl 6 (.tmp 47) (.const (.int .i64 0))), (some (45, true))⟩, 
             ⟨(some 49), (.fieldAddr 1 (.tmp 48)), (some (45, true))⟩, 
             ⟨(some 50), (.load1 (.tmp 49)), (some (45, true))⟩, 
             ⟨(some 51), (.callF 19 [(.tmp 50)]), (some (45, true))⟩, 
             ⟨(some 52), (.pick (.tmp 45) (.tmp 51) (.const (.bool false))), none⟩, 
             ⟨(some 2), (.mv (.tmp 52)), none⟩])
            .ret)
           (.seq (.ops [
             ⟨(some 54), (.bin .eql (.tmp 11) (.const (.int .i64 15))), none⟩, 
             ⟨(some 53), (.mv (.tmp 54)), none⟩])
            (.cond (.tmp 53)
             (.seq (.ops [
               ⟨(some 55), (.fieldAddr 1 (.tmp 3)), none⟩, 
               ⟨(some 56), (.load1 (.tmp 55)), none⟩, 
               ⟨(some 57), (.bin .eql (.tmp 56) (.const (.string ⟨#[100, 101, 108, 101, 116, 101]⟩))), none⟩, 
               ⟨(some 58), (.mv (.tmp 57)), none⟩, 
               ⟨(some 59), (.fieldAddr 5 (.tmp 3)), (some (58, true))⟩, 
               ⟨(some 60), (.load1 (.tmp 59)), (some (58, true))⟩, 
               ⟨(some 61), (.idxSl 6 (.tmp 60) (.const (.int .i64 0))), (some (58, true))⟩, 
               ⟨(some 62), (.fieldAddr 0 (.tmp 61)), (some (58, true))⟩, 
               ⟨(some 63), (.load1 (.tmp 62)), (some (58, true))⟩, 
               ⟨(some 64), (.bin .eql (.tmp 63) (.const (.int .i64 3))), (some (58, true))⟩, 
               ⟨(some 65), (.pick (.tmp 58) (.tmp 64) (.const (.bool false))), none⟩, 
               ⟨(some 2), (.mv (.tmp 65)), none⟩])
              .ret)
             (.seq (.ops [
               ⟨(some 67), (.bin .eql (.tmp 11) (.const (.int .i64 8))), none⟩, 
               ⟨(some 66), (.mv (.tmp 67)), none⟩])
              (.cond (.tmp 66)
               (.seq (.ops [
                 ⟨(some 4), (.mv (.const (.slice none 0 0))), none⟩])
                (.seq (.seq (.ops [
                   ⟨(some 68), (.fieldAddr 5 (.tmp 3)), none⟩, 
                   ⟨(some 69), (.load1 (.tmp 68)), none⟩, 
                   ⟨(some 70), (.lenSl (.tmp 69)), none⟩, 
                   ⟨(some 71), (.mv (.const (.int .i64 0))), none⟩])
                  (.block 1
                   (.loop
                    (.seq (.ops [
                      ⟨(some 72), (.bin .lss (.tmp 71) (.tmp 70)), none⟩])
                     (.seq (.cond (.tmp 72)
                       .skip
                       (.exit 1))
                      (.seq (.block 2
                        (.seq (.ops [
                          ⟨(some 73), (.idxSl 6 (.tmp 69) (.tmp 71)), none⟩, 
                          ⟨(some 74), (.loadN 6 (.tmp 73)), none⟩, 
                          ⟨(some 6), (.new 25 [(.int .i64 0), (.string ⟨#[]⟩), (.int .i64 0), (.string ⟨#[]⟩), (.slice none 0 0), (.slice none 0 0)]), none⟩, 
                          ⟨none, (.storeN 6 (.tmp 6) (.tmp 74)), none⟩])
                         (.ops [
                          ⟨(some 75), (.mv (.tmp 4)), none⟩, 
                          ⟨(some 76), (.fieldAddr 3 (.tmp 6)), none⟩, 
                          ⟨(some 77), (.load1 (.tmp 76)), none⟩, 
                          ⟨(some 78), (.buildSlice 9 1 [(.string ⟨#[]⟩)] [(0, 1, (.tmp 77))]), none⟩, 
                          ⟨(some 79), (.append 9 1 16 [(.string ⟨#[]⟩)] (.tmp 75) (.tmp 78)), none⟩, 
                          ⟨(some 4), (.mv (.tmp 79)), none⟩])))
                       (.ops [
                        ⟨(some 80), (.bin .add (.tmp 71) (.const (.int .i64 1))), none⟩, 
                        ⟨(some 71), (.mv (.tmp 80)), none⟩])))))))
                 (.seq (.ops [
                   ⟨(some 81), (.mv (.tmp 4)), none⟩, 
                   ⟨(some 82), (.callF 21 [(.tmp 81)]), none⟩, 
                   ⟨(some 83), (.un .not (.tmp 82)), none⟩, 
                   ⟨(some 2), (.mv (.tmp 83)), none⟩])
                  .ret)))
               (.seq (.ops [
                 ⟨(some 85), (.bin .eql (.tmp 11) (.const (.int .i64 33))), none⟩, 
                 ⟨(some 84), (.mv (.tmp 85)), none⟩])
                (.cond (.tmp 84)
                 (.seq (.ops [
                   ⟨(some 86), (.fieldAddr 9 (.tmp 1)), none⟩, 
                   ⟨(some 87), (.load1 (.tmp 86)), none⟩, 
                   ⟨(some 88), (.un .not (.tmp 87)), none⟩, 
                   ⟨(some 2), (.mv (.tmp 88)), none⟩])
                  .ret)
                 (.seq (.ops [
                   ⟨(some 90), (.bin .eql (.tmp 11) (.const (.int .i64 31))), none⟩, 
                   ⟨(some 89), (.mv (.tmp 90)), none⟩])
                  (.cond (.tmp 89)
                   (.seq (.ops [
                     ⟨(some 91), (.fieldAddr 1 (.tmp 3)), none⟩, 
                     ⟨(some 92), (.load1 (.tmp 91)), none⟩, 
                     ⟨(some 93), (.bin .eql (.tmp 92) (.const (.string ⟨#[]⟩))), none⟩, 
                     ⟨(some 94), (.mv (.tmp 93)), none⟩, 
                     ⟨(some 95), (.fieldAddr 7 (.tmp 1)), (some (94, true))⟩, 
                     ⟨(some 96), (.load1 (.tmp 95)), (some (94, true))⟩, 
                     ⟨(some 97), (.un .not (.tmp 96)), (some (94, true))⟩, 
                     ⟨(some 98), (.pick (.tmp 94) (.tmp 97) (.const (.bool false))), none⟩, 
                     ⟨(some 99), (.mv (.tmp 98)), none⟩, 
                     ⟨(some 100), (.fieldAddr 1 (.tmp 3)), (some (99, false))⟩, 
                     ⟨(some 101), (.load1 (.tmp 100)), (some (99, false))⟩, 
                     ⟨(some 102), (.bin .neq (.tmp 101) (.const (.string ⟨#[]⟩))), (some (99, false))⟩, 
                     ⟨(some 103), (.mv (.tmp 102)), (some (99, false))⟩, 
                     ⟨(some 104), (.fieldAddr 6 (.tmp 1)), (some (103, true))⟩, 
                     ⟨(some 105), (.load1 (.tmp 104)), (some (103, true))⟩, 
                     ⟨(some 106), (.fieldAddr 1 (.tmp 3)), (some (103, true))⟩, 
                     ⟨(some 107), (.load1 (.tmp 106)), (some (103, true))⟩, 
                     ⟨(some 108), (.callF 22 [(.tmp 105), (.tmp 107)]), (some (103, true))⟩, 
                     ⟨(some 109), (.isNil 1 false (.tmp 108)), (some (103, true))⟩, 
                     ⟨(some 110), (.pick (.tmp 103) (.tmp 109) (.const (.bool false))), (some (99, false))⟩, 
                     ⟨(some 111), (.pick (.tmp 99) (.const (.bool true)) (.tmp 110)), none⟩, 
                     ⟨(some 2), (.mv (.tmp 111)), none⟩])
                    .ret)
                   (.seq (.ops [
                     ⟨(some 113), (.bin .eql (.tmp 11) (.const (.int .i64 32))), none⟩, 
                     ⟨(some 112), (.mv (.tmp 113)), none⟩])
                    (.cond (.tmp 112)
                     (.seq (.seq (.ops [
                        ⟨(some 114), (.fieldAddr 1 (.tmp 3)), none⟩, 
                        ⟨(some 115), (.load1 (.tmp 114)), none⟩, 
                        ⟨(some 116), (.bin .eql (.tmp 115) (.const (.string ⟨#[]⟩))), none⟩])
                       (.cond (.tmp 116)
                        (.seq (.ops [
                          ⟨(some 117), (.fieldAddr 8 (.tmp 1)), none⟩, 
                          ⟨(some 118), (.load1 (.tmp 117)), none⟩, 
                          ⟨(some 119), (.un .not (.tmp 118)), none⟩, 
                          ⟨(some 2), (.mv (.tmp 119)), none⟩])
                         .ret)
                        .skip))
                      (.seq (.ops [
                        ⟨(some 120), (.fieldAddr 6 (.tmp 1)), none⟩, 
                        ⟨(some 121), (.load1 (.tmp 120)), none⟩, 
                        ⟨(some 122), (.fieldAddr 1 (.tmp 3)), none⟩, 
                        ⟨(some 123), (.load1 (.tmp 122)), none⟩, 
                        ⟨(some 124), (.callF 22 [(.tmp 121), (.tmp 123)]), none⟩, 
                        ⟨(some 7), (.mv (.tmp 124)), none⟩])
                       (.seq (.ops [
                         ⟨(some 125), (.mv (.tmp 7)), none⟩, 
                         ⟨(some 126), (.isNil 1 false (.tmp 125)), none⟩, 
                         ⟨(some 127), (.mv (.tmp 126)), none⟩, 
                         ⟨(some 128), (.mv (.tmp 7)), (some (127, false))⟩, 
                         ⟨(some 129), (.nilCheck (.tmp 128)), (some (127, false))⟩, 
                         ⟨(some 130), (.fieldAddr 1 (.tmp 129)), (some (127, false))⟩, 
                         ⟨(some 131), (.load1 (.tmp 130)), (some (127, false))⟩, 
                         ⟨(some 132), (.un .not (.tmp 131)), (some (127, false))⟩, 
                         ⟨(some 133), (.pick (.tmp 127) (.const (.bool true)) (.tmp 132)), none⟩, 
                         ⟨(some 2), (.mv (.tmp 133)), none⟩])
                        .ret)))
                     (.seq (.ops [
                       ⟨(some 135), (.bin .eql (.tmp 11) (.const (.int .i64 38))), none⟩, 
                       ⟨(some 134), (.mv (.tmp 135)), none⟩])
                      (.cond (.tmp 134)
                       (.seq (.ops [
                         ⟨(some 136), (.fieldAddr 6 (.tmp 1)), none⟩, 
                         ⟨(some 137), (.load1 (.tmp 136)), none⟩, 
                         ⟨(some 138), (.fieldAddr 1 (.tmp 3)), none⟩, 
                         ⟨(some 139), (.load1 (.tmp 138)), none⟩, 
                         ⟨(some 140), (.callF 22 [(.tmp 137), (.tmp 139)]), none⟩, 
                         ⟨(some 141), (.isNil 1 true (.tmp 140)), none⟩, 
                         ⟨(some 2), (.mv (.tmp 141)), none⟩])
                        .ret)
                       .skip))))))))))))))))))))
   (.seq (.ops [
     ⟨(some 2), (.mv (.const (.bool false))), none⟩])
    .ret))))
theorem c11 {args : Array Value} {h : Heap} {R : Ending → Heap → Prop} (ha : args.size ≤ 142) (hh : aexec Tryz.prog ac11 (abody [(.slot 2)] R) ⟨initFr args.toList, []⟩ h) : HCalls Tryz.prog 11 args h R :=
  hcalls_of Tryz.func11 rfl rfl (by kernel_rfl) (by kernel_rfl) ha hh
/-- 12: credenza/credenzaref07.Check -/
def ac12 : ACode :=
 (.seq (.ops [
  ⟨(some 1), (.box 25 (.tmp 0)), none⟩, 
  ⟨(some 2), (.mv (.const (.int .i64 0))), none⟩])
 (.seq (.seq (.ops [
    ⟨(some 3), (.fieldAddr 0 (.tmp 1)), none⟩, 
    ⟨(some 4), (.load1 (.tmp 3)), none⟩, 
    ⟨(some 5), (.bin .neq (.tmp 4) (.const (.int .i64 41))), none⟩, 
    ⟨(some 6), (.mv (.tmp 5)), none⟩, 
    ⟨(some 7), (.loadN 6 (.tmp 1)), (some (6, false))⟩, 
    ⟨(some 8), (.callF 23 [(.tmp 7)]), (some (6, false))⟩, 
    ⟨(some 9), (.un .not (.tmp 8)), (some (6, false))⟩, 
    ⟨(some 10), (.pick (.tmp 6) (.const (.bool true)) (.tmp 9)), none⟩, 
    ⟨(some 11), (.mv (.tmp 10)), none⟩, 
    ⟨(some 12), (.fieldAddr 5 (.tmp 1)), (some (11, false))⟩, 
    ⟨(some 13), (.load1 (.tmp 12)), (some (11, false))⟩, 
    ⟨(some 14), (.callF 24 [(.tmp 13), (.const (.bool true))]), (some (11, false))⟩, 
    ⟨(some 15), (.un .not (.tmp 14)), (some (11, false))⟩, 
    ⟨(some 16), (.pick (.tmp 11) (.const (.bool true)) (.tmp 15)), none⟩])
   (.cond (.tmp 16)
    (.seq (.ops [
      ⟨(some 2), (.mv (.const (.int .i64 70))), none⟩])
     .ret)
    .skip))
  (.seq (.seq (.ops [
     ⟨(some 17), (.loadN 6 (.tmp 1)), none⟩, 
     ⟨(some 18), (.callF 25 [(.tmp 17)]), none⟩, 
     ⟨(some 19), (.bin .gtr (.tmp 18) (.const (.int .i64 64))), none⟩])
    (.cond (.tmp 19)
     (.seq (.ops [
       ⟨(some 2), (.mv (.const (.int .i64 31))), none⟩])
      .ret)
     .skip))
   (.seq (.ops [
     ⟨(some 2), (.mv (.const (.int .i64 0))), none⟩])
    .ret))))
theorem c12 {args : Array Value} {h : Heap} {R : Ending → Heap → Prop} (ha : args.size ≤ 20) (hh : aexec Tryz.prog ac12 (abody [(.slot 2)] R) ⟨initFr args.toList, []⟩ h) : HCalls Tryz.prog 12 args h R :=
  hcalls_of Tryz.func12 rfl rfl (by kernel_rfl) (by kernel_rfl) ha hh
/-- 13: credenza/credenzaref09.may -/
def ac13 : ACode :=
 (.seq (.ops [
  ⟨(some 2), (.box 25 (.tmp 0)), none⟩, 
  ⟨(some 3), (.box 41 (.tmp 1)), none⟩, 
  ⟨(some 4), (.mv (.const (.bool false))), none⟩])
 (.seq (.seq (.ops [
    ⟨(some 8), (.loadN 6 (.tmp 2)), none⟩, 
    ⟨(some 9), (.loadN 5 (.tmp 3)), none⟩, 
    ⟨(some 10), (.callF 26 [(.tmp 8), (.tmp 9)]), none⟩, 
    ⟨(some 11), (.un .not (.tmp 10)), none⟩])
   (.cond (.tmp 11)
    (.seq (.ops [
      ⟨(some 4), (.mv (.const (.bool false))), none⟩])
     .ret)
    .skip))
  (.seq (.ops [
    ⟨(some 12), (.loadN 6 (.tmp 2)), none⟩, 
    ⟨(some 13), (.loadN 5 (.tmp 3)), none⟩, 
    ⟨(some 14), (.callF 27 [(.tmp 12), (.tmp 13)]), none⟩, 
    ⟨(some 5), (.new 41 [(.slice none 0 0), (.slice none 0 0), (.bool false), (.bool false), (.bool false)]), none⟩, 
    ⟨none, (.storeN 5 (.tmp 5) (.tmp 14)), none⟩])
   (.seq (.seq (.ops [
      ⟨(some 15), (.fieldAddr 5 (.tmp 2)), none⟩, 
      ⟨(some 16), (.load1 (.tmp 15)), none⟩, 
      ⟨(some 17), (.lenSl (.tmp 16)), none⟩, 
      ⟨(some 18), (.mv (.const (.int .i64 0))), none⟩])
     (.block 0
      (.loop
       (.seq (.ops [
         ⟨(some 19), (.bin .lss (.tmp 18) (.tmp 17)), none⟩])
        (.seq (.cond (.tmp 19)
          .skip
          (.exit 0))
         (.seq (.block 1
           (.seq (.ops [
             ⟨(some 20), (.idxSl 6 (.tmp 16) (.tmp 18)), none⟩, 
             ⟨(some 21), (.loadN 6 (.tmp 20)), none⟩, 
             ⟨(some 7), (.new 25 [(.int .i64 0), (.string ⟨#[]⟩), (.int .i64 0), (.string ⟨#[]⟩), (.slice none 0 0), (.slice none 0 0)]), none⟩, 
             ⟨none, (.storeN 6 (.tmp 7) (.tmp 21)), none⟩])
            (.seq (.ops [
              ⟨(some 22), (.loadN 6 (.tmp 7)), none⟩, 
              ⟨(some 23), (.loadN 5 (.tmp 5)), none⟩, 
              ⟨(some 24), (.callF 13 [(.tmp 22), (.tmp 23)]), none⟩, 
              ⟨(some 25), (.un .not (.tmp 24)), none⟩])
             (.cond (.tmp 25)
              (.seq (.ops [
                ⟨(some 4), (.mv (.const (.bool false))), none⟩])
               .ret)
              .skip))))
          (.ops [
           ⟨(some 26), (.bin .add (.tmp 18) (.const (.int .i64 1))), none⟩, 
           ⟨(some 18), (.mv (.tmp 26)), none⟩])))))))
    (.seq (.ops [
      ⟨(some 4), (.mv (.const (.bool true))), none⟩])
     .ret)))))
theorem c13 {args : Array Value} {h : Heap} {R : Ending → Heap → Prop} (ha : args.size ≤ 27) (hh : aexec Tryz.prog ac13 (abody [(.slot 4)] R) ⟨initFr args.toList, []⟩ h) : HCalls Tryz.prog 13 args h R :=
  hcalls_of Tryz.func13 rfl rfl (by kernel_rfl) (by kernel_rfl) ha hh
/-- 14: slices.Contains[[]string,string] -/
def ac14 : ACode :=
 (.seq (.ops [
  ⟨(some 4), (.mv (.const (.bool false))), none⟩])
 (.seq (.ops [
   ⟨(some 5), (.mv (.tmp 0)), none⟩, 
   ⟨(some 6), (.mv (.tmp 1)), none⟩, 
   ⟨(some 7), (.callF 28 [(.tmp 5), (.tmp 6)]), none⟩, 
   ⟨(some 8), (.bin .geq (.tmp 7) (.const (.int .i64 0))), none⟩, 
   ⟨(some 4), (.mv (.tmp 8)), none⟩])
  .ret))
theorem c14 {args : Array Value} {h : Heap} {R : Ending → Heap → Prop} (ha : args.size ≤ 9) (hh : aexec Tryz.prog ac14 (abody [(.slot 4)] R) ⟨initFr args.toList, []⟩ h) : HCalls Tryz.prog 14 args h R :=
  hcalls_of Tryz.func14 rfl rfl (by kernel_rfl) (by kernel_rfl) ha hh
/-- 15: credenza/tree.may -/
def ac15 : ACode :=
 (.seq (.ops [
  ⟨(some 1), (.box 25 (.tmp 0)), none⟩, 
  ⟨(some 2), (.mv (.const (.bool false))), none⟩])
 (.seq (.ops [
   ⟨(some 13), (.loadN 6 (.tmp 1)), none⟩, 
   ⟨(some 14), (.callF 29 [(.tmp 13)]), none⟩, 
   ⟨(some 12), (.mv (.tmp 14)), none⟩, 
   ⟨(some 15), (.extract (.tmp 12) 0), none⟩, 
   ⟨(some 16), (.extract (.tmp 12) 1), none⟩, 
   ⟨(some 3), (.new 55 [(.string ⟨#[]⟩), (.int .i64 0), (.bool false), (.bool false), (.string ⟨#[]⟩)]), none⟩, 
   ⟨none, (.storeN 5 (.tmp 3) (.tmp 15)), none⟩, 
   ⟨(some 4), (.mv (.tmp 16)), none⟩])
  (.seq (.seq (.ops [
     ⟨(some 17), (.mv (.tmp 4)), none⟩, 
     ⟨(some 18), (.un .not (.tmp 17)), none⟩, 
     ⟨(some 19), (.mv (.tmp 18)), none⟩, 
     ⟨(some 20), (.loadN 6 (.tmp 1)), (some (19, false))⟩, 
     ⟨(some 21), (.fieldAddr 0 (.tmp 3)), (some (19, false))⟩, 
     ⟨(some 22), (.load1 (.tmp 21)), (some (19, false))⟩, 
     ⟨(some 23), (.callF 30 [(.tmp 20), (.tmp 22)]), (some (19, false))⟩, 
     ⟨(some 24), (.un .not (.tmp 23)), (some (19, false))⟩, 
     ⟨(some 25), (.pick (.tmp 19) (.const (.bool true)) (.tmp 24)), none⟩, 
     ⟨(some 26), (.mv (.tmp 25)), none⟩, 
     ⟨(some 27), (.fieldAddr 2 (.tmp 1)), (some (26, false))⟩, 
     ⟨(some 28), (.load1 (.tmp 27)), (some (26, false))⟩, 
     ⟨(some 29), (.bin .lss (.tmp 28) (.const (.int .i64 0))), (some (26, false))⟩, 
     ⟨(some 30), (.pick (.tmp 26) (.const (.bool true)) (.tmp 29)), none⟩, 
     ⟨(some 31), (.mv (.tmp 30)), none⟩, 
     ⟨(some 32), (.fieldAddr 2 (.tmp 1)), (some (31, false))⟩, 
     ⟨(some 33), (.load1 (.tmp 32)), (some (31, false))⟩, 
     ⟨(some 34), (.fieldAddr 1 (.tmp 3)), (some (31, false))⟩, 
     ⟨(some 35), (.load1 (.tmp 34)), (some (31, false))⟩, 
     ⟨(some 36), (.bin .gtr (.tmp 33) (.tmp 35)), (some (31, false))⟩, 
     ⟨(some 37), (.pick (.tmp 31) (.const (.bool true)) (.tmp 36)), none⟩, 
     ⟨(some 38), (.mv (.tmp 37)), none⟩, 
     ⟨(some 39), (.fieldAddr 3 (.tmp 1)), (some (38, false))⟩, 
     ⟨(some 40), (.load1 (.tmp 39)), (some (38, false))⟩, 
     ⟨(some 41), (.callF 31 [(.tmp 40)]), (some (38, false))⟩, 
     ⟨(some 42), (.un .not (.tmp 41)), (some (38, false))⟩, 
     ⟨(some 43), (.pick (.tmp 38) (.const (.bool true)) (.tmp 42)), none⟩, 
     ⟨(some 44), (.mv (.tmp 43)), none⟩, 
     ⟨(some 45), (.fieldAddr 3 (.tmp 1)), (some (44, false))⟩, 
     ⟨(some 46), (.load1 (.tmp 45)), (some (44, false))⟩, 
     ⟨(some 47), (.bin .neq (.tmp 46) (.const (.string ⟨#[]⟩))), (some (44, false))⟩, 
     ⟨(some 48), (.mv (.tmp 47)), (some (44, false))⟩, 
     ⟨(some 49), (.fieldAddr 2 (.tmp 3)), (some (48, true))⟩, 
     ⟨(some 50), (.load1 (.tmp 49)), (some (48, true))⟩, 
     ⟨(some 51), (.un .not (.tmp 50)), (some (48, true))⟩, 
     ⟨(some 52), (.pick (.tmp 48) (.tmp 51) (.const (.bool false))), (some (44, false))⟩, 
     ⟨(some 53), (.pick (.tmp 44) (.const (.bool true)) (.tmp 52)), none⟩, 
     ⟨(some 54), (.mv (.tmp 53)), none⟩, 
     ⟨(some 55), (.fieldAddr 4 (.tmp 1)), (some (54, false))⟩, 
     ⟨(some 56), (.load1 (.tmp 55)), (some (54, false))⟩, 
     ⟨(some 57), (.lenSl (.tmp 56)), (some (54, false))⟩, 
     ⟨(some 58), (.bin .gtr (.tmp 57) (.const (.int .i64 0))), (some (54, false))⟩, 
     ⟨(some 59), (.mv (.tmp 58)), (some (54, false))⟩, 
     ⟨(some 60), (.fieldAddr 3 (.tmp 3)), (some (59, true))⟩, 
     ⟨(some 61), (.load1 (.tmp 60)), (some (59, true))⟩, 
     ⟨(some 62), (.un .not (.tmp 61)), (some (59, true))⟩, 
     ⟨(some 63), (.pick (.tmp 59) (.tmp 62) (.const (.bool false))), (some (54, false))⟩, 
     ⟨(some 64), (.pick (.tmp 54) (.const (.bool true)) (.tmp 63)), none⟩])
    (.cond (.tmp 64)
     (.seq (.ops [
       ⟨(some 2), (.mv (.const (.bool false))), none⟩])
      .ret)
     .skip))
   (.seq (.seq (.ops [
      ⟨(some 65), (.fieldAddr 4 (.tmp 1)), none⟩, 
      ⟨(some 66), (.load1 (.tmp 65)), none⟩, 
      ⟨(some 67), (.callF 20 [(.tmp 66), (.func 32)]), none⟩])
     (.cond (.tmp 67)
      (.seq (.ops [
        ⟨(some 2), (.mv (.const (.bool false))), none⟩])
       .ret)
      .skip))
    (.seq (.ops [
      ⟨(some 69), (.fieldAddr 4 (.tmp 3)), none⟩, 
      ⟨(some 70), (.load1 (.tmp 69)), none⟩, 
      ⟨(some 71), (.callF 34 [(.tmp 70), (.const (.string ⟨#[42]⟩))]), none⟩, 
      ⟨(some 68), (.mv (.tmp 71)), none⟩, 
      ⟨(some 72), (.extract (.tmp 68) 0), none⟩, 
      ⟨(some 73), (.extract (.tmp 68) 1), none⟩, 
      ⟨(some 74), (.extract (.tmp 68) 2), none⟩, 
      ⟨(some 5), (.mv (.tmp 72)), none⟩, 
      ⟨(some 6), (.mv (.tmp 73)), none⟩, 
      ⟨(some 7), (.mv (.tmp 74)), none⟩])
     (.seq (.seq (.ops [
        ⟨(some 75), (.fieldAddr 5 (.tmp 1)), none⟩, 
        ⟨(some 76), (.load1 (.tmp 75)), none⟩, 
        ⟨(some 77), (.lenSl (.tmp 76)), none⟩, 
        ⟨(some 78), (.mv (.tmp 5)), none⟩, 
        ⟨(some 79), (.lenStr (.tmp 78)), none⟩, 
        ⟨(some 80), (.bin .lss (.tmp 77) (.tmp 79)), none⟩, 
        ⟨(some 81), (.mv (.tmp 80)), none⟩, 
        ⟨(some 82), (.mv (.tmp 7)), (some (81, false))⟩, 
        ⟨(some 83), (.un .not (.tmp 82)), (some (81, false))⟩, 
        ⟨(some 84), (.mv (.tmp 83)), (some (81, false))⟩, 
        ⟨(some 85), (.fieldAddr 5 (.tmp 1)), (some (84, true))⟩, 
        ⟨(some 86), (.load1 (.tmp 85)), (some (84, true))⟩, 
        ⟨(some 87), (.lenSl (.tmp 86)), (some (84, true))⟩, 
        ⟨(some 88), (.mv (.tmp 5)), (some (84, true))⟩, 
        ⟨(some 89), (.lenStr (.tmp 88)), (some (84, true))⟩, 
        ⟨(some 90), (.bin .gtr (.tmp 87) (.tmp 89)), (some (84, true))⟩, 
        ⟨(some 91), (.pick (.tmp 84) (.tmp 90) (.const (.bool false))), (some (81, false))⟩, 
        ⟨(some 92), (.pick (.tmp 81) (.const (.bool true)) (.tmp 91)), none⟩])
       (.cond (.tmp 92)
        (.seq (.ops [
          ⟨(some 2), (.mv (.const (.bool false))), none⟩])
         .ret)
        .skip))
      (.seq (.ops [
        ⟨(some 8), (.mv (.const (.int .i64 0))), none⟩])
       (.seq (.seq (.ops [
          ⟨(some 93), (.fieldAddr 5 (.tmp 1)), none⟩, 
          ⟨(some 94), (.load1 (.tmp 93)), none⟩, 
          ⟨(some 95), (.lenSl (.tmp 94)), none⟩, 
          ⟨(some 96), (.mv (.const (.int .i64 0))), none⟩])
         (.block 0
          (.loop
           (.seq (.ops [
             ⟨(some 97), (.bin .lss (.tmp 96) (.tmp 95)), none⟩])
            (.seq (.cond (.tmp 97)
              .skip
              (.exit 0))
             (.seq (.block 1
               (.seq (.ops [
                 ⟨(some 98), (.mv (.tmp 96)), none⟩, 
                 ⟨(some 99), (.idxSl 6 (.tmp 94) (.tmp 96)), none⟩, 
                 ⟨(some 100), (.loadN 6 (.tmp 99)), none⟩, 
                 ⟨(some 10), (.new 25 [(.int .i64 0), (.string ⟨#[]⟩), (.int .i64 0), (.string ⟨#[]⟩), (.slice none 0 0), (.slice none 0 0)]), none⟩, 
                 ⟨(some 9), (.mv (.tmp 98)), none⟩, 
                 ⟨none, (.storeN 6 (.tmp 10) (.tmp 100)), none⟩])
                (.seq (.ops [
                  ⟨(some 101), (.mv (.tmp 5)), none⟩, 
                  ⟨(some 102), (.mv (.tmp 6)), none⟩, 
                  ⟨(some 103), (.bin .add (.tmp 101) (.tmp 102)), none⟩, 
                  ⟨(some 104), (.mv (.tmp 9)), none⟩, 
                  ⟨(some 105), (.mv (.tmp 5)), none⟩, 
                  ⟨(some 106), (.mv (.tmp 6)), none⟩, 
                  ⟨(some 107), (.bin .add (.tmp 105) (.tmp 106)), none⟩, 
                  ⟨(some 108), (.lenStr (.tmp 107)), none⟩, 
                  ⟨(some 109), (.bin .sub (.tmp 108) (.const (.int .i64 1))), none⟩, 
                  ⟨(some 110), (.minmax false (.tmp 104) [(.tmp 109)]), none⟩, 
                  ⟨(some 111), (.idxStr (.tmp 103) (.tmp 110)), none⟩, 
                  ⟨(some 11), (.mv (.tmp 111)), none⟩])
                 (.seq (.seq (.ops [
                    ⟨(some 112), (.loadN 6 (.tmp 10)), none⟩, 
                    ⟨(some 113), (.mv (.tmp 11)), none⟩, 
                    ⟨(some 114), (.callF 35 [(.tmp 112), (.tmp 113)]), none⟩, 
                    ⟨(some 115), (.un .not (.tmp 114)), none⟩])
                   (.cond (.tmp 115)
                    (.seq (.ops [
                      ⟨(some 2), (.mv (.const (.bool false))), none⟩])
                     .ret)
                    .skip))
                  (.seq (.ops [
                    ⟨(some 116), (.fieldAddr 0 (.tmp 1)), none⟩, 
                    ⟨(some 117), (.load1 (.tmp 116)), none⟩, 
                    ⟨(some 118), (.bin .eql (.tmp 117) (.const (.int .i64 35))), none⟩, 
                    ⟨(some 119), (.mv (.tmp 118)), none⟩, 
                    ⟨(some 120), (.fieldAddr 0 (.tmp 10)), (some (119, true))⟩, 
                    ⟨(some 121), (.load1 (.tmp 120)), (some (119, true))⟩, 
                    ⟨(some 122), (.bin .eql (.tmp 121) (.const (.int .i64 42))), (some (119, true))⟩, 
                    ⟨(some 123), (.pick (.tmp 119) (.tmp 122) (.const (.bool false))), none⟩, 
                    ⟨(some 124), (.mv (.tmp 123)), none⟩, 
                    ⟨(some 125), (.fieldAddr 0 (.tmp 1)), (some (124, false))⟩, 
                    ⟨(some 126), (.load1 (.tmp 125)), (some (124, false))⟩, 
                    ⟨(some 127), (.bin .eql (.tmp 126) (.const (.int .i64 36))), (some (124, false))⟩, 
                    ⟨(some 128), (.mv (.tmp 127)), (some (124, false))⟩, 
                    ⟨(some 129), (.fieldAddr 0 (.tmp 10)), (some (128, true))⟩, 
                    ⟨(some 130), (.load1 (.tmp 129)), (some (128, true))⟩, 
                    ⟨(some 131), (.bin .eql (.tmp 130) (.const (.int .i64 37))), (some (128, true))⟩, 
                    ⟨(some 132), (.pick (.tmp 128) (.tmp 131) (.const (.bool false))), (some (124, false))⟩, 
                    ⟨(some 133), (.mv (.tmp 132)), (some (124, false))⟩, 
                    ⟨(some 134), (.fieldAddr 5 (.tmp 10)), (some (133, true))⟩, 
                    ⟨(some 135), (.load1 (.tmp 134)), (some (133, true))⟩, 
                    ⟨(some 136), (.idxSl 6 (.tmp 135) (.const (.int .i64 0))), (some (133, true))⟩, 
                    ⟨(some 137), (.fieldAddr 0 (.tmp 136)), (some (133, true))⟩, 
                    ⟨(some 138), (.load1 (.tmp 137)), (some (133, true))⟩, 
                    ⟨(some 139), (.bin .eql (.tmp 138) (.const (.int .i64 42))), (some (133, true))⟩, 
                    ⟨(some 140), (.pick (.tmp 133) (.tmp 139) (.const (.bool false))), (some (124, false))⟩, 
                    ⟨(some 141), (.pick (.tmp 124) (.const (.bool true)) (.tmp 140)), none⟩])
                   (.cond (.tmp 141)
                    (.ops [
                     ⟨(some 142), (.mv (.tmp 8)), none⟩, 
                     ⟨(some 143), (.bin .add (.tmp 142) (.const (.int .i64 1))), none⟩, 
                     ⟨(some 8), (.mv (.tmp 143)), none⟩])
                    .skip))))))
              (.ops [
               ⟨(some 144), (.bin .add (.tmp 96) (.const (.int .i64 1))), none⟩, 
               ⟨(some 96), (.mv (.tmp 144)), none⟩])))))))
        (.seq (.ops [
          ⟨(some 145), (.mv (.tmp 8)), none⟩, 
          ⟨(some 146), (.bin .lss (.tmp 145) (.const (.int .i64 2))), none⟩, 
          ⟨(some 2), (.mv (.tmp 146)), none⟩])
         .ret)))))))))
theorem c15 {args : Array Value} {h : Heap} {R : Ending → Heap → Prop} (ha : args.size ≤ 147) (hh : aexec Tryz.prog ac15 (abody [(.slot 2)] R) ⟨initFr args.toList, []⟩ h) : HCalls Tryz.prog 15 args h R :=
  hcalls_of Tryz.func15 rfl rfl (by kernel_rfl) (by kernel_rfl) ha hh
/-- 16: credenza/tree.Deep -/
def ac16 : ACode :=
 (.seq (.ops [
  ⟨(some 1), (.box 25 (.tmp 0)), none⟩, 
  ⟨(some 2), (.mv (.const (.int .i64 0))), none⟩])
 (.seq (.ops [
   ⟨(some 3), (.mv (.const (.int .i64 0))), none⟩])
  (.seq (.seq (.ops [
     ⟨(some 6), (.fieldAddr 5 (.tmp 1)), none⟩, 
     ⟨(some 7), (.load1 (.tmp 6)), none⟩, 
     ⟨(some 8), (.lenSl (.tmp 7)), none⟩, 
     ⟨(some 9), (.mv (.const (.int .i64 0))), none⟩])
    (.block 0
     (.loop
      (.seq (.ops [
        ⟨(some 10), (.bin .lss (.tmp 9) (.tmp 8)), none⟩])
       (.seq (.cond (.tmp 10)
         .skip
         (.exit 0))
        (.seq (.block 1
          (.seq (.ops [
            ⟨(some 11), (.idxSl 6 (.tmp 7) (.tmp 9)), none⟩, 
            ⟨(some 12), (.loadN 6 (.tmp 11)), none⟩, 
            ⟨(some 5), (.new 25 [(.int .i64 0), (.string ⟨#[]⟩), (.int .i64 0), (.string ⟨#[]⟩), (.slice none 0 0), (.slice none 0 0)]), none⟩, 
            ⟨none, (.storeN 6 (.tmp 5) (.tmp 12)), none⟩])
           (.ops [
            ⟨(some 13), (.mv (.tmp 3)), none⟩, 
            ⟨(some 14), (.loadN 6 (.tmp 5)), none⟩, 
            ⟨(some 15), (.callF 16 [(.tmp 14)]), none⟩, 
            ⟨(some 16), (.minmax true (.tmp 13) [(.tmp 15)]), none⟩, 
            ⟨(some 3), (.mv (.tmp 16)), none⟩])))
         (.ops [
          ⟨(some 17), (.bin .add (.tmp 9) (.const (.int .i64 1))), none⟩, 
          ⟨(some 9), (.mv (.tmp 17)), none⟩])))))))
   (.seq (.ops [
     ⟨(some 18), (.mv (.tmp 3)), none⟩, 
     ⟨(some 19), (.bin .add (.tmp 18) (.const (.int .i64 1))), none⟩, 
     ⟨(some 2), (.mv (.tmp 19)), none⟩])
    .ret))))
theorem c16 {args : Array Value} {h : Heap} {R : Ending → Heap → Prop} (ha : args.size ≤ 20) (hh : aexec Tryz.prog ac16 (abody [(.slot 2)] R) ⟨initFr args.toList, []⟩ h) : HCalls Tryz.prog 16 args h R :=
  hcalls_of Tryz.func16 rfl rfl (by kernel_rfl) (by kernel_rfl) ha hh
/-- 17: credenza/scope.all$1 -/
def ac17 : ACode :=
 (.ops [
 ⟨(some 3), (.loadN 6 (.tmp 1)), none⟩, 
 ⟨(some 4), (.build [(.int .i64 0), (.string ⟨#[]⟩), (.int .i64 0), (.string ⟨#[]⟩), (.slice none 0 0), (.slice none 0 0), (.pointer none), (.bool false), (.bool false), (.bool false)] [(0, 6, (.tmp 3))]), none⟩, 
 ⟨(some 5), (.mv (.tmp 0)), none⟩, 
 ⟨(some 6), (.callF 18 [(.tmp 4), (.tmp 5)]), none⟩])
theorem c17 {args : Array Value} {h : Heap} {R : Ending → Heap → Prop} (ha : args.size ≤ 7) (hh : aexec Tryz.prog ac17 (abody [] R) ⟨initFr args.toList, []⟩ h) : HCalls Tryz.prog 17 args h R :=
  hcalls_of Tryz.func17 rfl rfl (by kernel_rfl) (by kernel_rfl) ha hh
/-- 18: (credenza/scope.place).walk -/
def ac18 : ACode :=
 (.seq (.ops [
  ⟨(some 2), (.box 37 (.tmp 0)), none⟩, 
  ⟨(some 4), (.mv (.const (.bool false))), none⟩])
 (.seq (.seq (.ops [
    ⟨(some 10), (.mv (.tmp 1)), none⟩, 
    ⟨(some 11), (.loadN 10 (.tmp 2)), none⟩, 
    ⟨(some 12), (.callV (.tmp 10) [(.tmp 11)]), none⟩, 
    ⟨(some 13), (.un .not (.tmp 12)), none⟩])
   (.cond (.tmp 13)
    (.seq (.ops [
      ⟨(some 4), (.mv (.const (.bool false))), none⟩])
     .ret)
    .skip))
  (.seq (.ops [
    ⟨(some 14), (.loadN 10 (.tmp 2)), none⟩, 
    ⟨(some 5), (.new 37 [(.int .i64 0), (.string ⟨#[]⟩), (.int .i64 0), (.string ⟨#[]⟩), (.slice none 0 0), (.slice none 0 0), (.pointer none), (.bool false), (.bool false), (.bool false)]), none⟩, 
    ⟨none, (.storeN 10 (.tmp 5) (.tmp 14)), none⟩])
   (.seq (.seq (.ops [
      ⟨(some 15), (.fieldAddr 0 (.tmp 2)), none⟩, 
      ⟨(some 16), (.fieldAddr 0 (.tmp 15)), none⟩, 
      ⟨(some 17), (.load1 (.tmp 16)), none⟩, 
      ⟨(some 6), (.mv (.tmp 17)), none⟩])
     (.block 0
      (.seq (.ops [
        ⟨(some 19), (.mv (.tmp 6)), none⟩, 
        ⟨(some 20), (.bin .eql (.tmp 19) (.const (.int .i64 39))), none⟩, 
        ⟨(some 21), (.mv (.tmp 20)), none⟩, 
        ⟨(some 22), (.mv (.tmp 6)), (some (21, false))⟩, 
        ⟨(some 23), (.bin .eql (.tmp 22) (.const (.int .i64 10))), (some (21, false))⟩, 
        ⟨(some 24), (.pick (.tmp 21) (.const (.bool true)) (.tmp 23)), none⟩, 
        ⟨(some 18), (.mv (.tmp 24)), none⟩])
       (.cond (.tmp 18)
        (.ops [
         ⟨(some 25), (.build [(.int .i64 0), (.string ⟨#[]⟩), (.int .i64 0), (.string ⟨#[]⟩), (.slice none 0 0), (.slice none 0 0), (.pointer none), (.bool false), (.bool false), (.bool false)] [(9, 1, (.const (.bool true)))]), none⟩, 
         ⟨none, (.storeN 10 (.tmp 5) (.tmp 25)), none⟩])
        (.seq (.ops [
          ⟨(some 27), (.fieldAddr 0 (.tmp 2)), none⟩, 
          ⟨(some 28), (.loadN 6 (.tmp 27)), none⟩, 
          ⟨(some 29), (.callF 36 [(.tmp 28)]), none⟩, 
          ⟨(some 26), (.mv (.tmp 29)), none⟩])
         (.cond (.tmp 26)
          (.ops [
           ⟨(some 30), (.fieldAddr 7 (.tmp 5)), none⟩, 
           ⟨none, (.store1 (.tmp 30) (.const (.bool true))), none⟩, 
           ⟨(some 31), (.fieldAddr 8 (.tmp 5)), none⟩, 
           ⟨none, (.store1 (.tmp 31) (.const (.bool true))), none⟩])
          (.seq (.ops [
            ⟨(some 33), (.mv (.tmp 6)), none⟩, 
            ⟨(some 34), (.bin .eql (.tmp 33) (.const (.int .i64 36))), none⟩, 
            ⟨(some 32), (.mv (.tmp 34)), none⟩])
           (.cond (.tmp 32)
            (.ops [
             ⟨(some 35), (.fieldAddr 7 (.tmp 5)), none⟩, 
             ⟨none, (.store1 (.tmp 35) (.const (.bool true))), none⟩])
            (.seq (.ops [
              ⟨(some 37), (.mv (.tmp 6)), none⟩, 
              ⟨(some 38), (.bin .eql (.tmp 37) (.const (.int .i64 38))), none⟩, 
              ⟨(some 36), (.mv (.tmp 38)), none⟩])
             (.cond (.tmp 36)
              (.seq (.ops [
                ⟨(some 39), (.fieldAddr 0 (.tmp 2)), none⟩, 
                ⟨(some 40), (.loadN 6 (.tmp 39)), none⟩, 
                ⟨(some 7), (.new 25 [(.int .i64 0), (.string ⟨#[]⟩), (.int .i64 0), (.string ⟨#[]⟩), (.slice none 0 0), (.slice none 0 0)]), none⟩, 
                ⟨none, (.storeN 6 (.tmp 7) (.tmp 40)), none⟩])
               (.seq (.block 1
                 (.loop
                  (.seq (.seq (.ops [
                     ⟨(some 41), (.fieldAddr 0 (.tmp 7)), none⟩, 
                     ⟨(some 42), (.load1 (.tmp 41)), none⟩, 
                     ⟨(some 43), (.bin .eql (.tmp 42) (.const (.int .i64 38))), none⟩])
                    (.cond (.tmp 43)
                     .skip
                     (.exit 1)))
                   (.block 2
                    (.ops [
                     ⟨(some 44), (.fieldAddr 5 (.tmp 7)), none⟩, 
                     ⟨(some 45), (.load1 (.tmp 44)), none⟩, 
                     ⟨(some 46), (.idxSl 6 (.tmp 45) (.const (.int .i64 0))), none⟩, 
                     ⟨(some 47), (.loadN 6 (.tmp 46)), none⟩, 
                     ⟨none, (.storeN 6 (.tmp 7) (.tmp 47)), none⟩])))))
                (.seq (.any [48, 49, 50, 51, 52, 53, 54, 55, 56, 57] [
                  ⟨(some 48), (.fieldAddr 0 (.tmp 2)), none⟩, 
                  ⟨(some 49), (.fieldAddr 1 (.tmp 48)), none⟩, 
                  ⟨(some 51), (.loadN 6 (.tmp 7)), none⟩, 
                  ⟨(some 53), (.fieldAddr 6 (.tmp 2)), none⟩])
                 (.alt
                  (.seq (.any [48, 49, 50, 51, 52, 53, 54, 55, 56, 57] [
                    ⟨(some 50), (.load1 (.tmp 49)), none⟩])
                   (.alt
                    (.any [48, 49, 50, 51, 52, 53, 54, 55, 56, 57] [
                     ⟨(some 52), (.callF 36 [(.tmp 51)]), none⟩, 
                     ⟨(some 54), (.load1 (.tmp 53)), none⟩, 
                     ⟨(some 55), (.build [(.string ⟨#[]⟩), (.bool false), (.pointer none)] [(0, 1, (.tmp 50)), (1, 1, (.tmp 52)), (2, 1, (.tmp 54))]), none⟩, 
                     ⟨(some 56), (.box 50 (.tmp 55)), none⟩, 
                     ⟨(some 57), (.fieldAddr 6 (.tmp 5)), none⟩, 
                     ⟨none, (.store1 (.tmp 57) (.tmp 56)), none⟩])
                    (.any [48, 49, 50, 51, 52, 53, 54, 55, 56, 57] [
                     ⟨(some 54), (.load1 (.tmp 53)), none⟩, 
                     ⟨(some 52), (.callF 36 [(.tmp 51)]), none⟩, 
                     ⟨(some 55), (.build [(.string ⟨#[]⟩), (.bool false), (.pointer none)] [(0, 1, (.tmp 50)), (1, 1, (.tmp 52)), (2, 1, (.tmp 54))]), none⟩, 
                     ⟨(some 56), (.box 50 (.tmp 55)), none⟩, 
                     ⟨(some 57), (.fieldAddr 6 (.tmp 5)), none⟩, 
                     ⟨none, (.store1 (.tmp 57) (.tmp 56)), none⟩])))
                  (.alt
                   (.any [48, 49, 50, 51, 52, 53, 54, 55, 56, 57] [
                    ⟨(some 52), (.callF 36 [(.tmp 51)]), none⟩, 
                    ⟨(some 50), (.load1 (.tmp 49)), none⟩, 
                    ⟨(some 54), (.load1 (.tmp 53)), none⟩, 
                    ⟨(some 55), (.build [(.string ⟨#[]⟩), (.bool false), (.pointer none)] [(0, 1, (.tmp 50)), (1, 1, (.tmp 52)), (2, 1, (.tmp 54))]), none⟩, 
                    ⟨(some 56), (.box 50 (.tmp 55)), none⟩, 
                    ⟨(some 57), (.fieldAddr 6 (.tmp 5)), none⟩, 
                    ⟨none, (.store1 (.tmp 57) (.tmp 56)), none⟩])
                   (.seq (.any [48, 49, 50, 51, 52, 53, 54, 55, 56, 57] [
                     ⟨(some 54), (.load1 (.tmp 53)), none⟩])
                    (.alt
                     (.any [48, 49, 50, 51, 52, 53, 54, 55, 56, 57] [
                      ⟨(some 50), (.load1 (.tmp 49)), none⟩, 
                      ⟨(some 52), (.callF 36 [(.tmp 51)]), none⟩, 
                      ⟨(some 55), (.build [(.string ⟨#[]⟩), (.bool false), (.pointer none)] [(0, 1, (.tmp 50)), (1, 1, (.tmp 52)), (2, 1, (.tmp 54))]), none⟩, 
                      ⟨(some 56), (.box 50 (.tmp 55)), none⟩, 
                      ⟨(some 57), (.fieldAddr 6 (.tmp 5)), none⟩, 
                      ⟨none, (.store1 (.tmp 57) (.tmp 56)), none⟩])
                     (.any [48, 49, 50, 51, 52, 53, 54, 55, 56, 57] [
                      ⟨(some 52), (.callF 36 [(.tmp 51)]), none⟩, 
                      ⟨(some 50), (.load1 (.tmp 49)), none⟩, 
                      ⟨(some 55), (.build [(.string ⟨#[]⟩), (.bool false), (.pointer none)] [(0, 1, (.tmp 50)), (1, 1, (.tmp 52)), (2, 1, (.tmp 54))]), none⟩, 
                      ⟨(some 56), (.box 50 (.tmp 55)), none⟩, 
                      ⟨(some 57), (.fieldAddr 6 (.tmp 5)), none⟩, 
                      ⟨none, (.store1 (.tmp 57) (.tmp 56)), none⟩]))))))))
              .skip))))))))))
    (.seq (.seq (.ops [
       ⟨(some 58), (.fieldAddr 0 (.tmp 2)), none⟩, 
       ⟨(some 59), (.fieldAddr 5 (.tmp 58)), none⟩, 
       ⟨(some 60), (.load1 (.tmp 59)), none⟩, 
       ⟨(some 61), (.lenSl (.tmp 60)), none⟩, 
       ⟨(some 62), (.mv (.const (.int .i64 0))), none⟩])
      (.block 3
       (.loop
        (.seq (.ops [
          ⟨(some 63), (.bin .lss (.tmp 62) (.tmp 61)), none⟩])
         (.seq (.cond (.tmp 63)
           .skip
           (.exit 3))
          (.seq (.block 4
            (.seq (.ops [
              ⟨(some 64), (.idxSl 6 (.tmp 60) (.tmp 62)), none⟩, 
              ⟨(some 65), (.loadN 6 (.tmp 64)), none⟩, 
              ⟨(some 9), (.new 25 [(.int .i64 0), (.string ⟨#[]⟩), (.int .i64 0), (.string ⟨#[]⟩), (.slice none 0 0), (.slice none 0 0)]), none⟩, 
              ⟨none, (.storeN 6 (.tmp 9) (.tmp 65)), none⟩])
             (.seq (.ops [
               ⟨(some 66), (.loadN 6 (.tmp 9)), none⟩, 
               ⟨(some 67), (.fieldAddr 0 (.tmp 5)), none⟩, 
               ⟨none, (.storeN 6 (.tmp 67) (.tmp 66)), none⟩])
              (.seq (.ops [
                ⟨(some 68), (.loadN 10 (.tmp 5)), none⟩, 
                ⟨(some 69), (.mv (.tmp 1)), none⟩, 
                ⟨(some 70), (.callF 18 [(.tmp 68), (.tmp 69)]), none⟩, 
                ⟨(some 71), (.un .not (.tmp 70)), none⟩])
               (.cond (.tmp 71)
                (.seq (.ops [
                  ⟨(some 4), (.mv (.const (.bool false))), none⟩])
                 .ret)
                .skip)))))
           (.ops [
            ⟨(some 72), (.bin .add (.tmp 62) (.const (.int .i64 1))), none⟩, 
            ⟨(some 62), (.mv (.tmp 72)), none⟩])))))))
     (.seq (.ops [
       ⟨(some 4), (.mv (.const (.bool true))), none⟩])
      .ret))))))
theorem c18 {args : Array Value} {h : Heap} {R : Ending → Heap → Prop} (ha : args.size ≤ 73) (hh : aexec Tryz.prog ac18 (abody [(.slot 4)] R) ⟨initFr args.toList, []⟩ h) : HCalls Tryz.prog 18 args h R :=
  hcalls_of Tryz.func18 rfl rfl (by kernel_rfl) (by kernel_rfl) ha hh
/-- 19: credenza/scope.banned -/
def ac19 : ACode :=
 (.seq (.ops [
  ⟨(some 2), (.mv (.const (.bool false))), none⟩])
 (.seq (.ops [
   ⟨(some 3), (.mv (.tmp 0)), none⟩, 
   ⟨(some 4), (.bin .eql (.tmp 3) (.const (.string ⟨#[101, 118, 97, 108]⟩))), none⟩, 
   ⟨(some 5), (.mv (.tmp 4)), none⟩, 
   ⟨(some 6), (.mv (.tmp 0)), (some (5, false))⟩, 
   ⟨(some 7), (.bin .eql (.tmp 6) (.const (.string ⟨#[97, 114, 103, 117, 109, 101, 110, 116, 115]⟩))), (some (5, false))⟩, 
   ⟨(some 8), (.pick (.tmp 5) (.const (.bool true)) (.tmp 7)), none⟩, 
   ⟨(some 2), (.mv (.tmp 8)), none⟩])
  .ret))
theorem c19 {args : Array Value} {h : Heap} {R : Ending → Heap → Prop} (ha : args.size ≤ 9) (hh : aexec Tryz.prog ac19 (abody [(.slot 2)] R) ⟨initFr args.toList, []⟩ h) : HCalls Tryz.prog 19 args h R :=
  hcalls_of Tryz.func19 rfl rfl (by kernel_rfl) (by kernel_rfl) ha hh
/-- 20: slices.ContainsFunc[[]string,string] -/
def ac20 : ACode :=
 (.seq (.ops [
  ⟨(some 4), (.mv (.const (.bool false))), none⟩])
 (.seq (.ops [
   ⟨(some 5), (.mv (.tmp 0)), none⟩, 
   ⟨(some 6), (.mv (.tmp 1)), none⟩, 
   ⟨(some 7), (.callF 37 [(.tmp 5), (.tmp 6)]), none⟩, 
   ⟨(some 8), (.bin .geq (.tmp 7) (.const (.int .i64 0))), none⟩, 
   ⟨(some 4), (.mv (.tmp 8)), none⟩])
  .ret))
theorem c20 {args : Array Value} {h : Heap} {R : Ending → Heap → Prop} (ha : args.size ≤ 9) (hh : aexec Tryz.prog ac20 (abody [(.slot 4)] R) ⟨initFr args.toList, []⟩ h) : HCalls Tryz.prog 20 args h R :=
  hcalls_of Tryz.func20 rfl rfl (by kernel_rfl) (by kernel_rfl) ha hh
/-- 21: credenza/scope.distinct -/
def ac21 : ACode :=
 (.seq (.ops [
  ⟨(some 2), (.mv (.const (.bool false))), none⟩])
 (.seq (.ops [
   ⟨(some 3), (.mv (.tmp 0)), none⟩, 
   ⟨(some 4), (.callF 39 [(.tmp 3)]), none⟩, 
   ⟨(some 5), (.callF 38 [(.tmp 4)]), none⟩, 
   ⟨(some 0), (.mv (.tmp 5)), none⟩])
  (.seq (.ops [
    ⟨(some 6), (.mv (.tmp 0)), none⟩, 
    ⟨(some 7), (.callF 40 [(.tmp 6)]), none⟩, 
    ⟨(some 8), (.lenSl (.tmp 7)), none⟩, 
    ⟨(some 9), (.mv (.tmp 0)), none⟩, 
    ⟨(some 10), (.lenSl (.tmp 9)), none⟩, 
    ⟨(some 11), (.bin .eql (.tmp 8) (.tmp 10)), none⟩, 
    ⟨(some 2), (.mv (.tmp 11)), none⟩])
   .ret)))
theorem c21 {args : Array Value} {h : Heap} {R : Ending → Heap → Prop} (ha : args.size ≤ 12) (hh : aexec Tryz.prog ac21 (abody [(.slot 2)] R) ⟨initFr args.toList, []⟩ h) : HCalls Tryz.prog 21 args h R :=
  hcalls_of Tryz.func21 rfl rfl (by kernel_rfl) (by kernel_rfl) ha hh
/-- 22: (*credenza/scope.label).find -/
def ac22 : ACode :=
 (.seq (.ops [
  ⟨(some 4), (.mv (.const (.pointer none))), none⟩])
 (.seq (.block 0
   (.loop
    (.seq (.seq (.ops [
       ⟨(some 5), (.mv (.tmp 0)), none⟩, 
       ⟨(some 6), (.isNil 1 true (.tmp 5)), none⟩, 
       ⟨(some 7), (.mv (.tmp 6)), none⟩, 
       ⟨(some 8), (.mv (.tmp 0)), (some (7, true))⟩, 
       ⟨(some 9), (.nilCheck (.tmp 8)), (some (7, true))⟩, 
       ⟨(some 10), (.fieldAddr 0 (.tmp 9)), (some (7, true))⟩, 
       ⟨(some 11), (.load1 (.tmp 10)), (some (7, true))⟩, 
       ⟨(some 12), (.mv (.tmp 1)), (some (7, true))⟩, 
       ⟨(some 13), (.bin .neq (.tmp 11) (.tmp 12)), (some (7, true))⟩, 
       ⟨(some 14), (.pick (.tmp 7) (.tmp 13) (.const (.bool false))), none⟩])
      (.cond (.tmp 14)
       .skip
       (.exit 0)))
     (.block 1
      (.ops [
       ⟨(some 15), (.mv (.tmp 0)), none⟩, 
       ⟨(some 16), (.nilCheck (.tmp 15)), none⟩, 
       ⟨(some 17), (.fieldAddr 2 (.tmp 16)), none⟩, 
       ⟨(some 18), (.load1 (.tmp 17)), none⟩, 
       ⟨(some 0), (.mv (.tmp 18)), none⟩])))))
  (.seq (.ops [
    ⟨(some 19), (.mv (.tmp 0)), none⟩, 
    ⟨(some 4), (.mv (.tmp 19)), none⟩])
   .ret)))
theorem c22 {args : Array Value} {h : Heap} {R : Ending → Heap → Prop} (ha : args.size ≤ 20) (hh : aexec Tryz.prog ac22 (abody [(.slot 4)] R) ⟨initFr args.toList, []⟩ h) : HCalls Tryz.prog 22 args h R :=
  hcalls_of Tryz.func22 rfl rfl (by kernel_rfl) (by kernel_rfl) ha hh
/-- 23: credenza/credenzaref07.own -/
def ac23 : ACode :=
 (.seq (.ops [
  ⟨(some 1), (.box 25 (.tmp 0)), none⟩, 
  ⟨(some 2), (.mv (.const (.bool false))), none⟩])
 (.seq (.seq (.ops [
    ⟨(some 5), (.loadN 6 (.tmp 1)), none⟩, 
    ⟨(some 6), (.callF 41 [(.tmp 5)]), none⟩, 
    ⟨(some 7), (.un .not (.tmp 6)), none⟩, 
    ⟨(some 8), (.mv (.tmp 7)), none⟩, 
    ⟨(some 9), (.fieldAddr 3 (.tmp 1)), (some (8, false))⟩, 
    ⟨(some 10), (.load1 (.tmp 9)), (some (8, false))⟩, 
    ⟨(some 11), (.bin .neq (.tmp 10) (.const (.string ⟨#[]⟩))), (some (8, false))⟩, 
    ⟨(some 12), (.mv (.tmp 11)), (some (8, false))⟩, 
    ⟨(some 13), (.fieldAddr 0 (.tmp 1)), (some (12, true))⟩, 
    ⟨(some 14), (.load1 (.tmp 13)), (some (12, true))⟩, 
    ⟨(some 15), (.bin .neq (.tmp 14) (.const (.int .i64 2))), (some (12, true))⟩, 
    ⟨(some 16), (.pick (.tmp 12) (.tmp 15) (.const (.bool false))), (some (8, false))⟩, 
    ⟨(some 17), (.mv (.tmp 16)), (some (8, false))⟩, 
    ⟨(some 18), (.fieldAddr 0 (.tmp 1)), (some (17, true))⟩, 
    ⟨(some 19), (.load1 (.tmp 18)), (some (17, true))⟩, 
    ⟨(some 20), (.bin .neq (.tmp 19) (.const (.int .i64 9))), (some (17, true))⟩, 
    ⟨(some 21), (.pick (.tmp 17) (.tmp 20) (.const (.bool false))), (some (8, false))⟩, 
    ⟨(some 22), (.pick (.tmp 8) (.const (.bool true)) (.tmp 21)), none⟩, 
    ⟨(some 23), (.mv (.tmp 22)), none⟩, 
    ⟨(some 24), (.fieldAddr 3 (.tmp 1)), (some (23, false))⟩, 
    ⟨(some 25), (.load1 (.tmp 24)), (some (23, false))⟩, 
    ⟨(some 26), (.callF 42 [(.tmp 25)]), (some (23, false))⟩, 
    ⟨(some 27), (.un .not (.tmp 26)), (some (23, false))⟩, 
    ⟨(some 28), (.pick (.tmp 23) (.const (.bool true)) (.tmp 27)), none⟩])
   (.cond (.tmp 28)
    (.seq (.ops [
      ⟨(some 2), (.mv (.const (.bool false))), none⟩])
     .ret)
    .skip))
  (.seq (.seq (.ops [
     ⟨(some 29), (.fieldAddr 0 (.tmp 1)), none⟩, 
     ⟨(some 30), (.load1 (.tmp 29)), none⟩])
    (.block 0
     (.seq (.ops [
       ⟨(some 35), (.bin .eql (.tmp 30) (.const (.int .i64 1))), none⟩, 
       ⟨(some 34), (.mv (.tmp 35)), none⟩])
      (.cond (.tmp 34)
       (.seq (.ops [
         ⟨(some 36), (.fieldAddr 2 (.tmp 1)), none⟩, 
         ⟨(some 37), (.load1 (.tmp 36)), none⟩, 
         ⟨(some 38), (.bin .lss (.tmp 37) (.const (.int .i64 0))), none⟩, 
         ⟨(some 39), (.mv (.tmp 38)), none⟩, 
         ⟨(some 40), (.fieldAddr 2 (.tmp 1)), (some (39, false))⟩, 
         ⟨(some 41), (.load1 (.tmp 40)), (some (39, false))⟩, 
         ⟨(some 42), (.bin .gtr (.tmp 41) (.const (.int .i64 9007199254740991))), (some (39, false))⟩, 
         ⟨(some 43), (.pick (.tmp 39) (.const (.bool true)) (.tmp 42)), none⟩])
        (.cond (.tmp 43)
         (.seq (.ops [
           ⟨(some 2), (.mv (.const (.bool false))), none⟩])
          .ret)
         .skip))
       (.seq (.seq (.ops [
          ⟨(some 45), (.bin .eql (.tmp 30) (.const (.int .i64 6))), none⟩, 
          ⟨(some 44), (.mv (.tmp 45)), none⟩])
         (.cond (.tmp 44)
          .skip
          (.ops [
           ⟨(some 46), (.bin .eql (.tmp 30) (.const (.int .i64 16))), none⟩, 
           ⟨(some 44), (.mv (.tmp 46)), none⟩])))
        (.cond (.tmp 44)
         (.seq (.ops [
           ⟨(some 47), (.fieldAddr 2 (.tmp 1)), none⟩, 
           ⟨(some 48), (.load1 (.tmp 47)), none⟩, 
           ⟨(some 49), (.bin .neq (.tmp 48) (.const (.int .i64 0))), none⟩, 
           ⟨(some 50), (.mv (.tmp 49)), none⟩, 
           ⟨(some 51), (.fieldAddr 2 (.tmp 1)), (some (50, true))⟩, 
           ⟨(some 52), (.load1 (.tmp 51)), (some (50, true))⟩, 
           ⟨(some 53), (.bin .neq (.tmp 52) (.const (.int .i64 1))), (some (50, true))⟩, 
           ⟨(some 54), (.pick (.tmp 50) (.tmp 53) (.const (.bool false))), none⟩])
          (.cond (.tmp 54)
           (.seq (.ops [
             ⟨(some 2), (.mv (.const (.bool false))), none⟩])
            .ret)
           .skip))
         (.seq (.ops [
           ⟨(some 31), (.fieldAddr 2 (.tmp 1)), none⟩, 
           ⟨(some 32), (.load1 (.tmp 31)), none⟩, 
           ⟨(some 33), (.bin .neq (.tmp 32) (.const (.int .i64 0))), none⟩])
          (.cond (.tmp 33)
           (.seq (.ops [
             ⟨(some 2), (.mv (.const (.bool false))), none⟩])
            .ret)
           .skip))))))))
   (.seq (.seq (.ops [
      ⟨(some 55), (.fieldAddr 4 (.tmp 1)), none⟩, 
      ⟨(some 56), (.load1 (.tmp 55)), none⟩, 
      ⟨(some 57), (.lenSl (.tmp 56)), none⟩, 
      ⟨(some 58), (.bin .gtr (.tmp 57) (.const (.int .i64 0))), none⟩, 
      ⟨(some 59), (.mv (.tmp 58)), none⟩, 
      ⟨(some 60), (.fieldAddr 0 (.tmp 1)), (some (59, true))⟩, 
      ⟨(some 61), (.load1 (.tmp 60)), (some (59, true))⟩, 
      ⟨(some 62), (.bin .neq (.tmp 61) (.const (.int .i64 10))), (some (59, true))⟩, 
      ⟨(some 63), (.pick (.tmp 59) (.tmp 62) (.const (.bool false))), none⟩, 
      ⟨(some 64), (.mv (.tmp 63)), none⟩, 
      ⟨(some 65), (.fieldAddr 0 (.tmp 1)), (some (64, true))⟩, 
      ⟨(some 66), (.load1 (.tmp 65)), (some (64, true))⟩, 
      ⟨(some 67), (.bin .neq (.tmp 66) (.const (.int .i64 39))), (some (64, true))⟩, 
      ⟨(some 68), (.pick (.tmp 64) (.tmp 67) (.const (.bool false))), none⟩])
     (.cond (.tmp 68)
      (.seq (.ops [
        ⟨(some 2), (.mv (.const (.bool false))), none⟩])
       .ret)
      .skip))
    (.seq (.seq (.ops [
       ⟨(some 69), (.fieldAddr 4 (.tmp 1)), none⟩, 
       ⟨(some 70), (.load1 (.tmp 69)), none⟩, 
       ⟨(some 71), (.lenSl (.tmp 70)), none⟩, 
       ⟨(some 72), (.mv (.const (.int .i64 0))), none⟩])
      (.block 1
       (.loop
        (.seq (.ops [
          ⟨(some 73), (.bin .lss (.tmp 72) (.tmp 71)), none⟩])
         (.seq (.cond (.tmp 73)
           .skip
           (.exit 1))
          (.seq (.block 2
            (.seq (.ops [
              ⟨(some 74), (.idxSl 1 (.tmp 70) (.tmp 72)), none⟩, 
              ⟨(some 75), (.load1 (.tmp 74)), none⟩, 
              ⟨(some 4), (.mv (.tmp 75)), none⟩])
             (.seq (.ops [
               ⟨(some 76), (.mv (.tmp 4)), none⟩, 
               ⟨(some 77), (.callF 43 [(.tmp 76)]), none⟩, 
               ⟨(some 78), (.un .not (.tmp 77)), none⟩])
              (.cond (.tmp 78)
               (.seq (.ops [
                 ⟨(some 2), (.mv (.const (.bool false))), none⟩])
                .ret)
               .skip))))
           (.ops [
            ⟨(some 79), (.bin .add (.tmp 72) (.const (.int .i64 1))), none⟩, 
            ⟨(some 72), (.mv (.tmp 79)), none⟩])))))))
     (.seq (.ops [
       ⟨(some 2), (.mv (.const (.bool true))), none⟩])
      .ret))))))
theorem c23 {args : Array Value} {h : Heap} {R : Ending → Heap → Prop} (ha : args.size ≤ 80) (hh : aexec Tryz.prog ac23 (abody [(.slot 2)] R) ⟨initFr args.toList, []⟩ h) : HCalls Tryz.prog 23 args h R :=
  hcalls_of Tryz.func23 rfl rfl (by kernel_rfl) (by kernel_rfl) ha hh
/-- 24: credenza/credenzaref07.stmts -/
def ac24 : ACode :=
 (.seq (.ops [
  ⟨(some 4), (.mv (.const (.bool false))), none⟩])
 (.seq (.seq (.ops [
    ⟨(some 7), (.mv (.tmp 0)), none⟩, 
    ⟨(some 8), (.lenSl (.tmp 7)), none⟩, 
    ⟨(some 9), (.mv (.const (.int .i64 0))), none⟩])
   (.block 0
    (.loop
     (.seq (.ops [
       ⟨(some 10), (.bin .lss (.tmp 9) (.tmp 8)), none⟩])
      (.seq (.cond (.tmp 10)
        .skip
        (.exit 0))
       (.seq (.block 1
         (.seq (.ops [
           ⟨(some 11), (.idxSl 6 (.tmp 7) (.tmp 9)), none⟩, 
           ⟨(some 12), (.loadN 6 (.tmp 11)), none⟩, 
           ⟨(some 6), (.new 25 [(.int .i64 0), (.string ⟨#[]⟩), (.int .i64 0), (.string ⟨#[]⟩), (.slice none 0 0), (.slice none 0 0)]), none⟩, 
           ⟨none, (.storeN 6 (.tmp 6) (.tmp 12)), none⟩])
          (.seq (.ops [
            ⟨(some 13), (.fieldAddr 0 (.tmp 6)), none⟩, 
            ⟨(some 14), (.load1 (.tmp 13)), none⟩, 
            ⟨(some 15), (.bin .eql (.tmp 14) (.const (.int .i64 39))), none⟩])
           (.cond (.tmp 15)
            (.seq (.ops [
              ⟨(some 16), (.mv (.tmp 1)), none⟩, 
              ⟨(some 17), (.un .not (.tmp 16)), none⟩, 
              ⟨(some 18), (.mv (.tmp 17)), none⟩, 
              ⟨(some 19), (.loadN 6 (.tmp 6)), (some (18, false))⟩, 
              ⟨(some 20), (.callF 23 [(.tmp 19)]), (some (18, false))⟩, 
              ⟨(some 21), (.un .not (.tmp 20)), (some (18, false))⟩, 
              ⟨(some 22), (.pick (.tmp 18) (.const (.bool true)) (.tmp 21)), none⟩, 
              ⟨(some 23), (.mv (.tmp 22)), none⟩, 
              ⟨(some 24), (.fieldAddr 5 (.tmp 6)), (some (23, false))⟩, 
              ⟨(some 25), (.load1 (.tmp 24)), (some (23, false))⟩, 
              ⟨(some 26), (.callF 24 [(.tmp 25), (.const (.bool true))]), (some (23, false))⟩, 
              ⟨(some 27), (.un .not (.tmp 26)), (some (23, false))⟩, 
              ⟨(some 28), (.pick (.tmp 23) (.const (.bool true)) (.tmp 27)), none⟩])
             (.cond (.tmp 28)
              (.seq (.ops [
                ⟨(some 4), (.mv (.const (.bool false))), none⟩])
               .ret)
              .skip))
            (.seq (.ops [
              ⟨(some 29), (.loadN 6 (.tmp 6)), none⟩, 
              ⟨(some 30), (.callF 44 [(.tmp 29)]), none⟩, 
              ⟨(some 31), (.un .not (.tmp 30)), none⟩])
             (.cond (.tmp 31)
              (.seq (.ops [
                ⟨(some 4), (.mv (.const (.bool false))), none⟩])
               .ret)
              .skip))))))
        (.ops [
         ⟨(some 32), (.bin .add (.tmp 9) (.const (.int .i64 1))), none⟩, 
         ⟨(some 9), (.mv (.tmp 32)), none⟩])))))))
  (.seq (.ops [
    ⟨(some 4), (.mv (.const (.bool true))), none⟩])
   .ret)))
theorem c24 {args : Array Value} {h : Heap} {R : Ending → Heap → Prop} (ha : args.size ≤ 33) (hh : aexec Tryz.prog ac24 (abody [(.slot 4)] R) ⟨initFr args.toList, []⟩ h) : HCalls Tryz.prog 24 args h R :=
  hcalls_of Tryz.func24 rfl rfl (by kernel_rfl) (by kernel_rfl) ha hh
/-- 25: credenza/credenzaref07.Deep -/
def ac25 : ACode :=
 (.seq (.ops [
  ⟨(some 1), (.box 25 (.tmp 0)), none⟩, 
  ⟨(some 2), (.mv (.const (.int .i64 0))), none⟩])
 (.seq (.ops [
   ⟨(some 3), (.mv (.const (.int .i64 0))), none⟩])
  (.seq (.seq (.ops [
     ⟨(some 6), (.fieldAddr 5 (.tmp 1)), none⟩, 
     ⟨(some 7), (.load1 (.tmp 6)), none⟩, 
     ⟨(some 8), (.lenSl (.tmp 7)), none⟩, 
     ⟨(some 9), (.mv (.const (.int .i64 0))), none⟩])
    (.block 0
     (.loop
      (.seq (.ops [
        ⟨(some 10), (.bin .lss (.tmp 9) (.tmp 8)), none⟩])
       (.seq (.cond (.tmp 10)
         .skip
         (.exit 0))
        (.seq (.block 1
          (.seq (.ops [
            ⟨(some 11), (.idxSl 6 (.tmp 7) (.tmp 9)), none⟩, 
            ⟨(some 12), (.loadN 6 (.tmp 11)), none⟩, 
            ⟨(some 5), (.new 25 [(.int .i64 0), (.string ⟨#[]⟩), (.int .i64 0), (.string ⟨#[]⟩), (.slice none 0 0), (.slice none 0 0)]), none⟩, 
            ⟨none, (.storeN 6 (.tmp 5) (.tmp 12)), none⟩])
           (.ops [
            ⟨(some 13), (.mv (.tmp 3)), none⟩, 
            ⟨(some 14), (.loadN 6 (.tmp 5)), none⟩, 
            ⟨(some 15), (.callF 25 [(.tmp 14)]), none⟩, 
            ⟨(some 16), (.minmax true (.tmp 13) [(.tmp 15)]), none⟩, 
            ⟨(some 3), (.mv (.tmp 16)), none⟩])))
         (.ops [
          ⟨(some 17), (.bin .add (.tmp 9) (.const (.int .i64 1))), none⟩, 
          ⟨(some 9), (.mv (.tmp 17)), none⟩])))))))
   (.seq (.ops [
     ⟨(some 18), (.mv (.tmp 3)), none⟩, 
     ⟨(some 19), (.bin .add (.tmp 18) (.const (.int .i64 1))), none⟩, 
     ⟨(some 2), (.mv (.tmp 19)), none⟩])
    .ret))))
theorem c25 {args : Array Value} {h : Heap} {R : Ending → Heap → Prop} (ha : args.size ≤ 20) (hh : aexec Tryz.prog ac25 (abody [(.slot 2)] R) ⟨initFr args.toList, []⟩ h) : HCalls Tryz.prog 25 args h R :=
  hcalls_of Tryz.func25 rfl rfl (by kernel_rfl) (by kernel_rfl) ha hh
/-- 26: credenza/credenzaref09.own -/
def ac26 : ACode :=
 (.seq (.ops [
  ⟨(some 2), (.box 25 (.tmp 0)), none⟩, 
  ⟨(some 3), (.box 41 (.tmp 1)), none⟩, 
  ⟨(some 4), (.mv (.const (.bool false))), none⟩])
 (.seq (.seq (.ops [
    ⟨(some 10), (.fieldAddr 0 (.tmp 2)), none⟩, 
    ⟨(some 11), (.load1 (.tmp 10)), none⟩])
   (.block 0
    (.seq (.seq (.ops [
       ⟨(some 13), (.bin .eql (.tmp 11) (.const (.int .i64 23))), none⟩, 
       ⟨(some 12), (.mv (.tmp 13)), none⟩])
      (.cond (.tmp 12)
       .skip
       (.ops [
        ⟨(some 14), (.bin .eql (.tmp 11) (.const (.int .i64 35))), none⟩, 
        ⟨(some 12), (.mv (.tmp 14)), none⟩])))
     (.cond (.tmp 12)
      (.seq (.ops [
        ⟨(some 15), (.fieldAddr 1 (.tmp 2)), none⟩, 
        ⟨(some 16), (.load1 (.tmp 15)), none⟩, 
        ⟨(some 17), (.callF 45 [(.tmp 16)]), none⟩, 
        ⟨(some 18), (.un .not (.tmp 17)), none⟩, 
        ⟨(some 4), (.mv (.tmp 18)), none⟩])
       .ret)
      (.seq (.seq (.ops [
         ⟨(some 20), (.bin .eql (.tmp 11) (.const (.int .i64 39))), none⟩, 
         ⟨(some 19), (.mv (.tmp 20)), none⟩])
        (.cond (.tmp 19)
         .skip
         (.ops [
          ⟨(some 21), (.bin .eql (.tmp 11) (.const (.int .i64 10))), none⟩, 
          ⟨(some 19), (.mv (.tmp 21)), none⟩])))
       (.cond (.tmp 19)
        (.seq (.seq (.ops [
           ⟨(some 22), (.fieldAddr 4 (.tmp 2)), none⟩, 
           ⟨(some 23), (.load1 (.tmp 22)), none⟩, 
           ⟨(some 24), (.lenSl (.tmp 23)), none⟩, 
           ⟨(some 25), (.mv (.const (.int .i64 0))), none⟩])
          (.block 1
           (.loop
            (.seq (.ops [
              ⟨(some 26), (.bin .lss (.tmp 25) (.tmp 24)), none⟩])
             (.seq (.cond (.tmp 26)
               .skip
               (.exit 1))
              (.seq (.block 2
                (.seq (.ops [
                  ⟨(some 27), (.idxSl 1 (.tmp 23) (.tmp 25)), none⟩, 
                  ⟨(some 28), (.load1 (.tmp 27)), none⟩, 
                  ⟨(some 6), (.mv (.tmp 28)), none⟩])
                 (.seq (.ops [
                   ⟨(some 29), (.mv (.tmp 6)), none⟩, 
                   ⟨(some 30), (.callF 45 [(.tmp 29)]), none⟩])
                  (.cond (.tmp 30)
                   (.seq (.ops [
                     ⟨(some 4), (.mv (.const (.bool false))), none⟩])
                    .ret)
                   .skip))))
               (.ops [
                ⟨(some 31), (.bin .add (.tmp 25) (.const (.int .i64 1))), none⟩, 
                ⟨(some 25), (.mv (.tmp 31)), none⟩])))))))
         (.seq (.ops [
           ⟨(some 32), (.fieldAddr 1 (.tmp 2)), none⟩, 
           ⟨(some 33), (.load1 (.tmp 32)), none⟩, 
           ⟨(some 34), (.callF 45 [(.tmp 33)]), none⟩, 
           ⟨(some 35), (.un .not (.tmp 34)), none⟩, 
           ⟨(some 36), (.mv (.tmp 35)), none⟩, 
           ⟨(some 37), (.fieldAddr 4 (.tmp 2)), (some (36, true))⟩, 
           ⟨(some 38), (.load1 (.tmp 37)), (some (36, true))⟩, 
           ⟨(some 39), (.callF 46 [(.tmp 38)]), (some (36, true))⟩, 
           ⟨(some 40), (.un .not (.tmp 39)), (some (36, true))⟩, 
           ⟨(some 41), (.pick (.tmp 36) (.tmp 40) (.const (.bool false))), none⟩, 
           ⟨(some 4), (.mv (.tmp 41)), none⟩])
          .ret))
        (.seq (.seq (.ops [
           ⟨(some 43), (.bin .eql (.tmp 11) (.const (.int .i64 20))), none⟩, 
           ⟨(some 42), (.mv (.tmp 43)), none⟩])
          (.cond (.tmp 42)
           .skip
           (.seq (.ops [
             ⟨(some 44), (.bin .eql (.tmp 11) (.const (.int .i64 16))), none⟩, 
             ⟨(some 42), (.mv (.tmp 44)), none⟩])
            (.cond (.tmp 42)
             .skip
             (.ops [
              ⟨(some 45), (.bin .eql (.tmp 11) (.const (.int .i64 30))), none⟩, 
              ⟨(some 42), (.mv (.tmp 45)), none⟩])))))
         (.cond (.tmp 42)
          (.seq (.ops [
            ⟨(some 46), (.fieldAddr 5 (.tmp 2)), none⟩, 
            ⟨(some 47), (.load1 (.tmp 46)), none⟩, 
            ⟨(some 48), (.idxSl 6 (.tmp 47) (.const (.int .i64 0))), none⟩, 
            ⟨(some 49), (.loadN 6 (.tmp 48)), none⟩, 
            ⟨(some 50), (.callF 47 [(.tmp 49)]), none⟩, 
            ⟨(some 51), (.un .not (.tmp 50)), none⟩, 
            ⟨(some 4), (.mv (.tmp 51)), none⟩])
           .ret)
          (.seq (.ops [
            ⟨(some 53), (.bin .eql (.tmp 11) (.const (.int .i64 15))), none⟩, 
            ⟨(some 52), (.mv (.tmp 53)), none⟩])
           (.cond (.tmp 52)
            (.seq (.ops [
              ⟨(some 54), (.fieldAddr 1 (.tmp 2)), none⟩, 
              ⟨(some 55), (.load1 (.tmp 54)), none⟩, 
              ⟨(some 56), (.bin .neq (.tmp 55) (.const (.string ⟨#[100, 101, 108, 101, 116, 101]⟩))), none⟩, 
              ⟨(some 57), (.mv (.tmp 56)), none⟩, 
              ⟨(some 58), (.fieldAddr 5 (.tmp 2)), (some (57, false))⟩, 
              ⟨(some 59), (.load1 (.tmp 58)), (some (57, false))⟩, 
              ⟨(some 60), (.idxSl 6 (.tmp 59) (.const (.int .i64 0))), (some (57, false))⟩, 
              ⟨(some 61), (.fieldAddr 0 (.tmp 60)), (some (57, false))⟩, 
              ⟨(some 62), (.load1 (.tmp 61)), (some (57, false))⟩, 
              ⟨(some 63), (.bin .neq (.tmp 62) (.const (.int .i64 3))), (some (57, false))⟩, 
              ⟨(some 64), (.pick (.tmp 57) (.const (.bool true)) (.tmp 63)), none⟩, 
              ⟨(some 4), (.mv (.tmp 64)), none⟩])
             .ret)
            (.seq (.ops [
              ⟨(some 66), (.bin .eql (.tmp 11) (.const (.int .i64 8))), none⟩, 
              ⟨(some 65), (.mv (.tmp 66)), none⟩])
             (.cond (.tmp 65)
              (.seq (.ops [
                ⟨(some 7), (.mv (.const (.slice none 0 0))), none⟩])
               (.seq (.seq (.ops [
                  ⟨(some 67), (.fieldAddr 5 (.tmp 2)), none⟩, 
                  ⟨(some 68), (.load1 (.tmp 67)), none⟩, 
                  ⟨(some 69), (.lenSl (.tmp 68)), none⟩, 
                  ⟨(some 70), (.mv (.const (.int .i64 0))), none⟩])
                 (.block 3
                  (.loop
                   (.seq (.ops [
                     ⟨(some 71), (.bin .lss (.tmp 70) (.tmp 69)), none⟩])
                    (.seq (.cond (.tmp 71)
                      .skip
                      (.exit 3))
                     (.seq (.block 4
                       (.seq (.ops [
                         ⟨(some 72), (.idxSl 6 (.tmp 68) (.tmp 70)), none⟩, 
                         ⟨(some 73), (.loadN 6 (.tmp 72)), none⟩, 
                         ⟨(some 9), (.new 25 [(.int .i64 0), (.string ⟨#[]⟩), (.int .i64 0), (.string ⟨#[]⟩), (.slice none 0 0), (.slice none 0 0)]), none⟩, 
                         ⟨none, (.storeN 6 (.tmp 9) (.tmp 73)), none⟩])
                        (.ops [
                         ⟨(some 74), (.mv (.tmp 7)), none⟩, 
                         ⟨(some 75), (.fieldAddr 3 (.tmp 9)), none⟩, 
                         ⟨(some 76), (.load1 (.tmp 75)), none⟩, 
                         ⟨(some 77), (.buildSlice 9 1 [(.string ⟨#[]⟩)] [(0, 1, (.tmp 76))]), none⟩, 
                         ⟨(some 78), (.append 9 1 16 [(.string ⟨#[]⟩)] (.tmp 74) (.tmp 77)), none⟩, 
                         ⟨(some 7), (.mv (.tmp 78)), none⟩])))
                      (.ops [
                       ⟨(some 79), (.bin .add (.tmp 70) (.const (.int .i64 1))), none⟩, 
                       ⟨(some 70), (.mv (.tmp 79)), none⟩])))))))
                (.seq (.ops [
                  ⟨(some 80), (.mv (.tmp 7)), none⟩, 
                  ⟨(some 81), (.callF 46 [(.tmp 80)]), none⟩, 
                  ⟨(some 82), (.un .not (.tmp 81)), none⟩, 
                  ⟨(some 4), (.mv (.tmp 82)), none⟩])
                 .ret)))
              (.seq (.ops [
                ⟨(some 84), (.bin .eql (.tmp 11) (.const (.int .i64 33))), none⟩, 
                ⟨(some 83), (.mv (.tmp 84)), none⟩])
               (.cond (.tmp 83)
                (.seq (.ops [
                  ⟨(some 85), (.fieldAddr 4 (.tmp 3)), none⟩, 
                  ⟨(some 86), (.load1 (.tmp 85)), none⟩, 
                  ⟨(some 4), (.mv (.tmp 86)), none⟩])
                 .ret)
                (.seq (.ops [
                  ⟨(some 88), (.bin .eql (.tmp 11) (.const (.int .i64 31))), none⟩, 
                  ⟨(some 87), (.mv (.tmp 88)), none⟩])
                 (.cond (.tmp 87)
                  (.seq (.ops [
                    ⟨(some 89), (.fieldAddr 1 (.tmp 2)), none⟩, 
                    ⟨(some 90), (.load1 (.tmp 89)), none⟩, 
                    ⟨(some 91), (.bin .eql (.tmp 90) (.const (.string ⟨#[]⟩))), none⟩, 
                    ⟨(some 92), (.mv (.tmp 91)), none⟩, 
                    ⟨(some 93), (.fieldAddr 3 (.tmp 3)), (some (92, true))⟩, 
                    ⟨(some 94), (.load1 (.tmp 93)), (some (92, true))⟩, 
                    ⟨(some 95), (.pick (.tmp 92) (.tmp 94) (.const (.bool false))), none⟩, 
                    ⟨(some 96), (.mv (.tmp 95)), none⟩, 
                    ⟨(some 97), (.fieldAddr 1 (.tmp 2)), (some (96, false))⟩, 
                    ⟨(some 98), (.load1 (.tmp 97)), (some (96, false))⟩, 
                    ⟨(some 99), (.bin .neq (.tmp 98) (.const (.string ⟨#[]⟩))), (some (96, false))⟩, 
                    ⟨(some 100), (.mv (.tmp 99)), (some (96, false))⟩, 
                    ⟨(some 101), (.fieldAddr 0 (.tmp 3)), (some (100, true))⟩, 
                    ⟨(some 102), (.load1 (.tmp 101)), (some (100, true))⟩, 
                    ⟨(some 103), (.fieldAddr 1 (.tmp 2)), (some (100, true))⟩, 
                    ⟨(some 104), (.load1 (.tmp 103)), (some (100, true))⟩, 
                    ⟨(some 105), (.callF 48 [(.tmp 102), (.tmp 104)]), (some (100, true))⟩, 
                    ⟨(some 106), (.pick (.tmp 100) (.tmp 105) (.const (.bool false))), (some (96, false))⟩, 
                    ⟨(some 107), (.pick (.tmp 96) (.const (.bool true)) (.tmp 106)), none⟩, 
                    ⟨(some 4), (.mv (.tmp 107)), none⟩])
                   .ret)
                  (.seq (.ops [
                    ⟨(some 109), (.bin .eql (.tmp 11) (.const (.int .i64 32))), none⟩, 
                    ⟨(some 108), (.mv (.tmp 109)), none⟩])
                   (.cond (.tmp 108)
                    (.seq (.ops [
                      ⟨(some 110), (.fieldAddr 1 (.tmp 2)), none⟩, 
                      ⟨(some 111), (.load1 (.tmp 110)), none⟩, 
                      ⟨(some 112), (.bin .eql (.tmp 111) (.const (.string ⟨#[]⟩))), none⟩, 
                      ⟨(some 113), (.mv (.tmp 112)), none⟩, 
                      ⟨(some 114), (.fieldAddr 2 (.tmp 3)), (some (113, true))⟩, 
                      ⟨(some 115), (.load1 (.tmp 114)), (some (113, true))⟩, 
                      ⟨(some 116), (.pick (.tmp 113) (.tmp 115) (.const (.bool false))), none⟩, 
                      ⟨(some 117), (.mv (.tmp 116)), none⟩, 
                      ⟨(some 118), (.fieldAddr 1 (.tmp 2)), (some (117, false))⟩, 
                      ⟨(some 119), (.load1 (.tmp 118)), (some (117, false))⟩, 
                      ⟨(some 120), (.bin .neq (.tmp 119) (.const (.string ⟨#[]⟩))), (some (117, false))⟩, 
                      ⟨(some 121), (.mv (.tmp 120)), (some (117, false))⟩, 
                      ⟨(some 122), (.fieldAddr 1 (.tmp 3)), (some (121, true))⟩, 
                      ⟨(some 123), (.load1 (.tmp 122)), (some (121, true))⟩, 
                      ⟨(some 124), (.fieldAddr 1 (.tmp 2)), (some (121, true))⟩, 
                      ⟨(some 125), (.load1 (.tmp 124)), (some (121, true))⟩, 
                      ⟨(some 126), (.callF 48 [(.tmp 123), (.tmp 125)]), (some (121, true))⟩, 
                      ⟨(some 127), (.pick (.tmp 121) (.tmp 126) (.const (.bool false))), (some (117, false))⟩, 
                      ⟨(some 128), (.pick (.tmp 117) (.const (.bool true)) (.tmp 127)), none⟩, 
                      ⟨(some 4), (.mv (.tmp 128)), none⟩])
                     .ret)
                    (.seq (.ops [
                      ⟨(some 130), (.bin .eql (.tmp 11) (.const (.int .i64 38))), none⟩, 
                      ⟨(some 129), (.mv (.tmp 130)), none⟩])
                     (.cond (.tmp 129)
                      (.seq (.ops [
                        ⟨(some 131), (.fieldAddr 0 (.tmp 3)), none⟩, 
                        ⟨(some 132), (.load1 (.tmp 131)), none⟩, 
                        ⟨(some 133), (.fieldAddr 1 (.tmp 2)), none⟩, 
                        ⟨(some 134), (.load1 (.tmp 133)), none⟩, 
                        ⟨(some 135), (.callF 48 [(.tmp 132), (.tmp 134)]), none⟩, 
                        ⟨(some 136), (.un .not (.tmp 135)), none⟩, 
                        ⟨(some 4), (.mv (.tmp 136)), none⟩])
                       .ret)
                      .skip))))))))))))))))))))
  (.seq (.ops [
    ⟨(some 4), (.mv (.const (.bool true))), none⟩])
   .ret)))
theorem c26 {args : Array Value} {h : Heap} {R : Ending → Heap → Prop} (ha : args.size ≤ 137) (hh : aexec Tryz.prog ac26 (abody [(.slot 4)] R) ⟨initFr args.toList, []⟩ h) : HCalls Tryz.prog 26 args h R :=
  hcalls_of Tryz.func26 rfl rfl (by kernel_rfl) (by kernel_rfl) ha hh
/-- 27: credenza/credenzaref09.within -/
def ac27 : ACode :=
 (.seq (.ops [
  ⟨(some 2), (.box 25 (.tmp 0)), none⟩, 
  ⟨(some 3), (.box 41 (.tmp 1)), none⟩, 
  ⟨(some 4), (.new 41 [(.slice none 0 0), (.slice none 0 0), (.bool false), (.bool false), (.bool false)]), none⟩])
 (.seq (.block 0
   (.seq (.ops [
     ⟨(some 7), (.fieldAddr 0 (.tmp 2)), none⟩, 
     ⟨(some 8), (.load1 (.tmp 7)), none⟩, 
     ⟨(some 9), (.bin .eql (.tmp 8) (.const (.int .i64 39))), none⟩, 
     ⟨(some 10), (.mv (.tmp 9)), none⟩, 
     ⟨(some 11), (.fieldAddr 0 (.tmp 2)), (some (10, false))⟩, 
     ⟨(some 12), (.load1 (.tmp 11)), (some (10, false))⟩, 
     ⟨(some 13), (.bin .eql (.tmp 12) (.const (.int .i64 10))), (some (10, false))⟩, 
     ⟨(some 14), (.pick (.tmp 10) (.const (.bool true)) (.tmp 13)), none⟩, 
     ⟨(some 6), (.mv (.tmp 14)), none⟩])
    (.cond (.tmp 6)
     (.seq (.ops [
       ⟨(some 15), (.build [(.slice none 0 0), (.slice none 0 0), (.bool false), (.bool false), (.bool false)] [(4, 1, (.const (.bool true)))]), none⟩, 
       ⟨none, (.storeN 5 (.tmp 4) (.tmp 15)), none⟩])
      .ret)
     (.seq (.ops [
       ⟨(some 17), (.loadN 6 (.tmp 2)), none⟩, 
       ⟨(some 18), (.callF 49 [(.tmp 17)]), none⟩, 
       ⟨(some 16), (.mv (.tmp 18)), none⟩])
      (.cond (.tmp 16)
       (.seq (.ops [
         ⟨(some 19), (.fieldAddr 2 (.tmp 3)), none⟩, 
         ⟨none, (.store1 (.tmp 19) (.const (.bool true))), none⟩])
        (.ops [
         ⟨(some 20), (.fieldAddr 3 (.tmp 3)), none⟩, 
         ⟨none, (.store1 (.tmp 20) (.const (.bool true))), none⟩]))
       (.seq (.ops [
         ⟨(some 22), (.fieldAddr 0 (.tmp 2)), none⟩, 
         ⟨(some 23), (.load1 (.tmp 22)), none⟩, 
         ⟨(some 24), (.bin .eql (.tmp 23) (.const (.int .i64 36))), none⟩, 
         ⟨(some 21), (.mv (.tmp 24)), none⟩])
        (.cond (.tmp 21)
         (.ops [
          ⟨(some 25), (.fieldAddr 3 (.tmp 3)), none⟩, 
          ⟨none, (.store1 (.tmp 25) (.const (.bool true))), none⟩])
         (.seq (.ops [
           ⟨(some 27), (.fieldAddr 0 (.tmp 2)), none⟩, 
           ⟨(some 28), (.load1 (.tmp 27)), none⟩, 
           ⟨(some 29), (.bin .eql (.tmp 28) (.const (.int .i64 38))), none⟩, 
           ⟨(some 26), (.mv (.tmp 29)), none⟩])
          (.cond (.tmp 26)
           (.seq (.seq (.any [30, 31, 32, 33, 34, 35, 36, 37] [
              ⟨(some 30), (.fieldAddr 0 (.tmp 3)), none⟩, 
              ⟨(some 31), (.load1 (.tmp 30)), none⟩, 
              ⟨(some 33), (.fieldAddr 1 (.tmp 2)), none⟩, 
              ⟨(some 34), (.load1 (.tmp 33)), none⟩])
             (.alt
              (.any [30, 31, 32, 33, 34, 35, 36, 37] [
               ⟨(some 32), (.append 9 1 16 [(.string ⟨#[]⟩)] (.const (.slice none 0 0)) (.tmp 31)), none⟩, 
               ⟨(some 35), (.buildSlice 9 1 [(.string ⟨#[]⟩)] [(0, 1, (.tmp 34))]), none⟩, 
               ⟨(some 36), (.append 9 1 16 [(.string ⟨#[]⟩)] (.tmp 32) (.tmp 35)), none⟩, 
               ⟨(some 37), (.fieldAddr 0 (.tmp 3)), none⟩, 
               ⟨none, (.store1 (.tmp 37) (.tmp 36)), none⟩])
              (.any [30, 31, 32, 33, 34, 35, 36, 37] [
               ⟨(some 35), (.buildSlice 9 1 [(.string ⟨#[]⟩)] [(0, 1, (.tmp 34))]), none⟩, 
               ⟨(some 32), (.append 9 1 16 [(.string ⟨#[]⟩)] (.const (.slice none 0 0)) (.tmp 31)), none⟩, 
               ⟨(some 36), (.append 9 1 16 [(.string ⟨#[]⟩)] (.tmp 32) (.tmp 35)), none⟩, 
               ⟨(some 37), (.fieldAddr 0 (.tmp 3)), none⟩, 
               ⟨none, (.store1 (.tmp 37) (.tmp 36)), none⟩])))
            (.seq (.ops [
              ⟨(some 38), (.fieldAddr 5 (.tmp 2)), none⟩, 
              ⟨(some 39), (.load1 (.tmp 38)), none⟩, 
              ⟨(some 40), (.idxSl 6 (.tmp 39) (.const (.int .i64 0))), none⟩, 
              ⟨(some 41), (.loadN 6 (.tmp 40)), none⟩, 
              ⟨(some 5), (.new 25 [(.int .i64 0), (.string ⟨#[]⟩), (.int .i64 0), (.string ⟨#[]⟩), (.slice none 0 0), (.slice none 0 0)]), none⟩, 
              ⟨none, (.storeN 6 (.tmp 5) (.tmp 41)), none⟩])
             (.seq (.block 1
               (.loop
                (.seq (.seq (.ops [
                   ⟨(some 42), (.fieldAddr 0 (.tmp 5)), none⟩, 
                   ⟨(some 43), (.load1 (.tmp 42)), none⟩, 
                   ⟨(some 44), (.bin .eql (.tmp 43) (.const (.int .i64 38))), none⟩])
                  (.cond (.tmp 44)
                   .skip
                   (.exit 1)))
                 (.block 2
                  (.ops [
                   ⟨(some 45), (.fieldAddr 5 (.tmp 5)), none⟩, 
                   ⟨(some 46), (.load1 (.tmp 45)), none⟩, 
                   ⟨(some 47), (.idxSl 6 (.tmp 46) (.const (.int .i64 0))), none⟩, 
                   ⟨(some 48), (.loadN 6 (.tmp 47)), none⟩, 
                   ⟨none, (.storeN 6 (.tmp 5) (.tmp 48)), none⟩])))))
              (.seq (.ops [
                ⟨(some 49), (.loadN 6 (.tmp 5)), none⟩, 
                ⟨(some 50), (.callF 49 [(.tmp 49)]), none⟩])
               (.cond (.tmp 50)
                (.seq (.any [51, 52, 53, 54, 55, 56, 57, 58] [
                  ⟨(some 51), (.fieldAddr 1 (.tmp 3)), none⟩, 
                  ⟨(some 52), (.load1 (.tmp 51)), none⟩, 
                  ⟨(some 54), (.fieldAddr 1 (.tmp 2)), none⟩, 
                  ⟨(some 55), (.load1 (.tmp 54)), none⟩])
                 (.alt
                  (.any [51, 52, 53, 54, 55, 56, 57, 58] [
                   ⟨(some 53), (.append 9 1 16 [(.string ⟨#[]⟩)] (.const (.slice none 0 0)) (.tmp 52)), none⟩, 
                   ⟨(some 56), (.buildSlice 9 1 [(.string ⟨#[]⟩)] [(0, 1, (.tmp 55))]), none⟩, 
                   ⟨(some 57), (.append 9 1 16 [(.string ⟨#[]⟩)] (.tmp 53) (.tmp 56)), none⟩, 
                   ⟨(some 58), (.fieldAddr 1 (.tmp 3)), none⟩, 
                   ⟨none, (.store1 (.tmp 58) (.tmp 57)), none⟩])
                  (.any [51, 52, 53, 54, 55, 56, 57, 58] [
                   ⟨(some 56), (.buildSlice 9 1 [(.string ⟨#[]⟩)] [(0, 1, (.tmp 55))]), none⟩, 
                   ⟨(some 53), (.append 9 1 16 [(.string ⟨#[]⟩)] (.const (.slice none 0 0)) (.tmp 52)), none⟩, 
                   ⟨(some 57), (.append 9 1 16 [(.string ⟨#[]⟩)] (.tmp 53) (.tmp 56)), none⟩, 
                   ⟨(some 58), (.fieldAddr 1 (.tmp 3)), none⟩, 
                   ⟨none, (.store1 (.tmp 58) (.tmp 57)), none⟩])))
                .skip)))))
           .skip)))))))))
  (.seq (.ops [
    ⟨(some 59), (.loadN 5 (.tmp 3)), none⟩, 
    ⟨none, (.storeN 5 (.tmp 4) (.tmp 59)), none⟩])
   .ret)))
theorem c27 {args : Array Value} {h : Heap} {R : Ending → Heap → Prop} (ha : args.size ≤ 60) (hh : aexec Tryz.prog ac27 (abody [(.cellN 4 5)] R) ⟨initFr args.toList, []⟩ h) : HCalls Tryz.prog 27 args h R :=
  hcalls_of Tryz.func27 rfl rfl (by kernel_rfl) (by kernel_rfl) ha hh
/-- 28: slices.Index[[]string,string] -/
def ac28 : ACode :=
 (.seq (.ops [
  ⟨(some 4), (.mv (.const (.int .i64 0))), none⟩])
 (.seq (.seq (.ops [
    ⟨(some 6), (.mv (.tmp 0)), none⟩, 
    ⟨(some 7), (.lenSl (.tmp 6)), none⟩, 
    ⟨(some 8), (.mv (.const (.int .i64 0))), none⟩])
   (.block 0
    (.loop
     (.seq (.ops [
       ⟨(some 9), (.bin .lss (.tmp 8) (.tmp 7)), none⟩])
      (.seq (.cond (.tmp 9)
        .skip
        (.exit 0))
       (.seq (.block 1
         (.seq (.ops [
           ⟨(some 10), (.mv (.tmp 8)), none⟩, 
           ⟨(some 5), (.mv (.tmp 10)), none⟩])
          (.seq (.ops [
            ⟨(some 11), (.mv (.tmp 1)), none⟩, 
            ⟨(some 12), (.mv (.tmp 0)), none⟩, 
            ⟨(some 13), (.mv (.tmp 5)), none⟩, 
            ⟨(some 14), (.idxSl 1 (.tmp 12) (.tmp 13)), none⟩, 
            ⟨(some 15), (.load1 (.tmp 14)), none⟩, 
            ⟨(some 16), (.bin .eql (.tmp 11) (.tmp 15)), none⟩])
           (.cond (.tmp 16)
            (.seq (.ops [
              ⟨(some 17), (.mv (.tmp 5)), none⟩, 
              ⟨(some 4), (.mv (.tmp 17)), none⟩])
             .ret)
            .skip))))
        (.ops [
         ⟨(some 18), (.bin .add (.tmp 8) (.const (.int .i64 1))), none⟩, 
         ⟨(some 8), (.mv (.tmp 18)), none⟩])))))))
  (.seq (.ops [
    ⟨(some 4), (.mv (.const (.int .i64 (-1)))), none⟩])
   .ret)))
theorem c28 {args : Array Value} {h : Heap} {R : Ending → Heap → Prop} (ha : args.size ≤ 19) (hh : aexec Tryz.prog ac28 (abody [(.slot 4)] R) ⟨initFr args.toList, []⟩ h) : HCalls Tryz.prog 28 args h R :=
  hcalls_of Tryz.func28 rfl rfl (by kernel_rfl) (by kernel_rfl) ha hh
/-- 29: credenza/tree.of -/
def ac29 : ACode :=
 (.seq (.ops [
  ⟨(some 1), (.box 25 (.tmp 0)), none⟩, 
  ⟨(some 2), (.new 55 [(.string ⟨#[]⟩), (.int .i64 0), (.bool false), (.bool false), (.string ⟨#[]⟩)]), none⟩, 
  ⟨(some 3), (.mv (.const (.bool false))), none⟩])
 (.seq (.seq (.ops [
    ⟨(some 4), (.fieldAddr 0 (.tmp 1)), none⟩, 
    ⟨(some 5), (.load1 (.tmp 4)), none⟩])
   (.block 0
    (.seq (.ops [
      ⟨(some 11), (.bin .eql (.tmp 5) (.const (.int .i64 1))), none⟩, 
      ⟨(some 10), (.mv (.tmp 11)), none⟩])
     (.cond (.tmp 10)
      (.ops [
       ⟨(some 12), (.fieldAddr 1 (.tmp 2)), none⟩, 
       ⟨none, (.store1 (.tmp 12) (.const (.int .i64 9007199254740991))), none⟩])
      (.seq (.ops [
        ⟨(some 14), (.bin .eql (.tmp 5) (.const (.int .i64 2))), none⟩, 
        ⟨(some 13), (.mv (.tmp 14)), none⟩])
       (.cond (.tmp 13)
        (.ops [
         ⟨(some 15), (.fieldAddr 2 (.tmp 2)), none⟩, 
         ⟨none, (.store1 (.tmp 15) (.const (.bool true))), none⟩])
        (.seq (.ops [
          ⟨(some 17), (.bin .eql (.tmp 5) (.const (.int .i64 3))), none⟩, 
          ⟨(some 16), (.mv (.tmp 17)), none⟩])
         (.cond (.tmp 16)
          (.ops [
           ⟨(some 18), (.fieldAddr 0 (.tmp 2)), none⟩, 
           ⟨none, (.store1 (.tmp 18) (.const (.string ⟨#[110]⟩))), none⟩])
          (.seq (.seq (.ops [
             ⟨(some 20), (.bin .eql (.tmp 5) (.const (.int .i64 4))), none⟩, 
             ⟨(some 19), (.mv (.tmp 20)), none⟩])
            (.cond (.tmp 19)
             .skip
             (.seq (.ops [
               ⟨(some 21), (.bin .eql (.tmp 5) (.const (.int .i64 5))), none⟩, 
               ⟨(some 19), (.mv (.tmp 21)), none⟩])
              (.cond (.tmp 19)
               .skip
               (.seq (.ops [
                 ⟨(some 22), (.bin .eql (.tmp 5) (.const (.int .i64 40))), none⟩, 
                 ⟨(some 19), (.mv (.tmp 22)), none⟩])
                (.cond (.tmp 19)
                 .skip
                 (.ops [
                  ⟨(some 23), (.bin .eql (.tmp 5) (.const (.int .i64 42))), none⟩, 
                  ⟨(some 19), (.mv (.tmp 23)), none⟩])))))))
           (.cond (.tmp 19)
            .skip
            (.seq (.ops [
              ⟨(some 25), (.bin .eql (.tmp 5) (.const (.int .i64 6))), none⟩, 
              ⟨(some 24), (.mv (.tmp 25)), none⟩])
             (.cond (.tmp 24)
              (.ops [
               ⟨(some 26), (.fieldAddr 1 (.tmp 2)), none⟩, 
               ⟨none, (.store1 (.tmp 26) (.const (.int .i64 1))), none⟩])
              (.seq (.ops [
                ⟨(some 28), (.bin .eql (.tmp 5) (.const (.int .i64 7))), none⟩, 
                ⟨(some 27), (.mv (.tmp 28)), none⟩])
               (.cond (.tmp 27)
                (.ops [
                 ⟨(some 29), (.fieldAddr 4 (.tmp 2)), none⟩, 
                 ⟨none, (.store1 (.tmp 29) (.const (.string ⟨#[42, 101]⟩))), none⟩])
                (.seq (.ops [
                  ⟨(some 31), (.bin .eql (.tmp 5) (.const (.int .i64 8))), none⟩, 
                  ⟨(some 30), (.mv (.tmp 31)), none⟩])
                 (.cond (.tmp 30)
                  (.ops [
                   ⟨(some 32), (.fieldAddr 4 (.tmp 2)), none⟩, 
                   ⟨none, (.store1 (.tmp 32) (.const (.string ⟨#[42, 112]⟩))), none⟩])
                  (.seq (.ops [
                    ⟨(some 34), (.bin .eql (.tmp 5) (.const (.int .i64 9))), none⟩, 
                    ⟨(some 33), (.mv (.tmp 34)), none⟩])
                   (.cond (.tmp 33)
                    (.ops [
                     ⟨(some 35), (.fieldAddr 2 (.tmp 2)), none⟩, 
                     ⟨none, (.store1 (.tmp 35) (.const (.bool true))), none⟩, 
                     ⟨(some 36), (.fieldAddr 4 (.tmp 2)), none⟩, 
                     ⟨none, (.store1 (.tmp 36) (.const (.string ⟨#[101]⟩))), none⟩])
                    (.seq (.ops [
                      ⟨(some 38), (.bin .eql (.tmp 5) (.const (.int .i64 10))), none⟩, 
                      ⟨(some 37), (.mv (.tmp 38)), none⟩])
                     (.cond (.tmp 37)
                      (.ops [
                       ⟨(some 39), (.fieldAddr 0 (.tmp 2)), none⟩, 
                       ⟨none, (.store1 (.tmp 39) (.const (.string ⟨#[109]⟩))), none⟩, 
                       ⟨(some 40), (.fieldAddr 3 (.tmp 2)), none⟩, 
                       ⟨none, (.store1 (.tmp 40) (.const (.bool true))), none⟩, 
                       ⟨(some 41), (.fieldAddr 4 (.tmp 2)), none⟩, 
                       ⟨none, (.store1 (.tmp 41) (.const (.string ⟨#[42, 120]⟩))), none⟩])
                      (.seq (.ops [
                        ⟨(some 43), (.bin .eql (.tmp 5) (.const (.int .i64 11))), none⟩, 
                        ⟨(some 42), (.mv (.tmp 43)), none⟩])
                       (.cond (.tmp 42)
                        (.ops [
                         ⟨(some 44), (.fieldAddr 0 (.tmp 2)), none⟩, 
                         ⟨none, (.store1 (.tmp 44) (.const (.string ⟨#[105]⟩))), none⟩, 
                         ⟨(some 45), (.fieldAddr 4 (.tmp 2)), none⟩, 
                         ⟨none, (.store1 (.tmp 45) (.const (.string ⟨#[101]⟩))), none⟩])
                        (.seq (.seq (.ops [
                           ⟨(some 47), (.bin .eql (.tmp 5) (.const (.int .i64 12))), none⟩, 
                           ⟨(some 46), (.mv (.tmp 47)), none⟩])
                          (.cond (.tmp 46)
                           .skip
                           (.ops [
                            ⟨(some 48), (.bin .eql (.tmp 5) (.const (.int .i64 21))), none⟩, 
                            ⟨(some 46), (.mv (.tmp 48)), none⟩])))
                         (.cond (.tmp 46)
                          (.ops [
                           ⟨(some 49), (.fieldAddr 4 (.tmp 2)), none⟩, 
                           ⟨none, (.store1 (.tmp 49) (.const (.string ⟨#[101, 101]⟩))), none⟩])
                          (.seq (.seq (.ops [
                             ⟨(some 51), (.bin .eql (.tmp 5) (.const (.int .i64 13))), none⟩, 
                             ⟨(some 50), (.mv (.tmp 51)), none⟩])
                            (.cond (.tmp 50)
                             .skip
                             (.ops [
                              ⟨(some 52), (.bin .eql (.tmp 5) (.const (.int .i64 14))), none⟩, 
                              ⟨(some 50), (.mv (.tmp 52)), none⟩])))
                           (.cond (.tmp 50)
                            (.ops [
                             ⟨(some 53), (.fieldAddr 4 (.tmp 2)), none⟩, 
                             ⟨none, (.store1 (.tmp 53) (.const (.string ⟨#[101, 42, 101]⟩))), none⟩])
                            (.seq (.ops [
                              ⟨(some 55), (.bin .eql (.tmp 5) (.const (.int .i64 15))), none⟩, 
                              ⟨(some 54), (.mv (.tmp 55)), none⟩])
                             (.cond (.tmp 54)
                              (.ops [
                               ⟨(some 56), (.fieldAddr 0 (.tmp 2)), none⟩, 
                               ⟨none, (.store1 (.tmp 56) (.const (.string ⟨#[32, 45, 32, 43, 32, 33, 32, 116, 121, 112, 101, 111, 102, 32, 100, 101, 108, 101, 116, 101, 32, 118, 111, 105, 100, 32]⟩))), none⟩, 
                               ⟨(some 57), (.fieldAddr 4 (.tmp 2)), none⟩, 
                               ⟨none, (.store1 (.tmp 57) (.const (.string ⟨#[101]⟩))), none⟩])
                              (.seq (.ops [
                                ⟨(some 59), (.bin .eql (.tmp 5) (.const (.int .i64 16))), none⟩, 
                                ⟨(some 58), (.mv (.tmp 59)), none⟩])
                               (.cond (.tmp 58)
                                (.ops [
                                 ⟨(some 60), (.fieldAddr 0 (.tmp 2)), none⟩, 
                                 ⟨none, (.store1 (.tmp 60) (.const (.string ⟨#[32, 43, 43, 32, 45, 45, 32]⟩))), none⟩, 
                                 ⟨(some 61), (.fieldAddr 1 (.tmp 2)), none⟩, 
                                 ⟨none, (.store1 (.tmp 61) (.const (.int .i64 1))), none⟩, 
                                 ⟨(some 62), (.fieldAddr 4 (.tmp 2)), none⟩, 
                                 ⟨none, (.store1 (.tmp 62) (.const (.string ⟨#[116]⟩))), none⟩])
                                (.seq (.ops [
                                  ⟨(some 64), (.bin .eql (.tmp 5) (.const (.int .i64 17))), none⟩, 
                                  ⟨(some 63), (.mv (.tmp 64)), none⟩])
                                 (.cond (.tmp 63)
                                  (.ops [
                                   ⟨(some 65), (.fieldAddr 0 (.tmp 2)), none⟩, 
                                   ⟨none, (.store1 (.tmp 65) (.const (.string ⟨#[32, 43, 32, 45, 32, 42, 32, 47, 32, 37, 32, 60, 32, 62, 32, 60, 61, 32, 62, 61, 32, 61, 61, 32, 33, 61, 32, 61, 61, 61, 32, 33, 61, 61, 32, 105, 110, 32, 105, 110, 115, 116, 97, 110, 99, 101, 111, 102, 32]⟩))), none⟩, 
                                   ⟨(some 66), (.fieldAddr 4 (.tmp 2)), none⟩, 
                                   ⟨none, (.store1 (.tmp 66) (.const (.string ⟨#[101, 101]⟩))), none⟩])
                                  (.seq (.ops [
                                    ⟨(some 68), (.bin .eql (.tmp 5) (.const (.int .i64 18))), none⟩, 
                                    ⟨(some 67), (.mv (.tmp 68)), none⟩])
                                   (.cond (.tmp 67)
                                    (.ops [
                                     ⟨(some 69), (.fieldAddr 0 (.tmp 2)), none⟩, 
                                     ⟨none, (.store1 (.tmp 69) (.const (.string ⟨#[32, 38, 38, 32, 124, 124, 32]⟩))), none⟩, 
                                     ⟨(some 70), (.fieldAddr 4 (.tmp 2)), none⟩, 
                                     ⟨none, (.store1 (.tmp 70) (.const (.string ⟨#[101, 101]⟩))), none⟩])
                                    (.seq (.ops [
                                      ⟨(some 72), (.bin .eql (.tmp 5) (.const (.int .i64 19))), none⟩, 
                                      ⟨(some 71), (.mv (.tmp 72)), none⟩])
                                     (.cond (.tmp 71)
                                      (.ops [
                                       ⟨(some 73), (.fieldAddr 4 (.tmp 2)), none⟩, 
                                       ⟨none, (.store1 (.tmp 73) (.const (.string ⟨#[101, 101, 101]⟩))), none⟩])
                                      (.seq (.ops [
                                        ⟨(some 75), (.bin .eql (.tmp 5) (.const (.int .i64 20))), none⟩, 
                                        ⟨(some 74), (.mv (.tmp 75)), none⟩])
                                       (.cond (.tmp 74)
                                        (.ops [
                                         ⟨(some 76), (.fieldAddr 0 (.tmp 2)), none⟩, 
                                         ⟨none, (.store1 (.tmp 76) (.const (.string ⟨#[32, 61, 32, 43, 61, 32, 45, 61, 32, 42, 61, 32, 47, 61, 32, 37, 61, 32]⟩))), none⟩, 
                                         ⟨(some 77), (.fieldAddr 4 (.tmp 2)), none⟩, 
                                         ⟨none, (.store1 (.tmp 77) (.const (.string ⟨#[116, 101]⟩))), none⟩])
                                        (.seq (.ops [
                                          ⟨(some 6), (.loadN 6 (.tmp 1)), none⟩, 
                                          ⟨(some 7), (.callF 50 [(.tmp 6)]), none⟩, 
                                          ⟨(some 8), (.extract (.tmp 7) 0), none⟩, 
                                          ⟨(some 9), (.extract (.tmp 7) 1), none⟩, 
                                          ⟨none, (.storeN 5 (.tmp 2) (.tmp 8)), none⟩, 
                                          ⟨(some 3), (.mv (.tmp 9)), none⟩])
                                         .ret)))))))))))))))))))))))))))))))))))))))
  (.seq (.ops [
    ⟨(some 78), (.loadN 5 (.tmp 2)), none⟩, 
    ⟨none, (.storeN 5 (.tmp 2) (.tmp 78)), none⟩, 
    ⟨(some 3), (.mv (.const (.bool true))), none⟩])
   .ret)))
theorem c29 {args : Array Value} {h : Heap} {R : Ending → Heap → Prop} (ha : args.size ≤ 79) (hh : aexec Tryz.prog ac29 (abody [(.cellN 2 5), (.slot 3)] R) ⟨initFr args.toList, []⟩ h) : HCalls Tryz.prog 29 args h R :=
  hcalls_of Tryz.func29 rfl rfl (by kernel_rfl) (by kernel_rfl) ha hh
/-- 30: credenza/tree.named -/
def ac30 : ACode :=
 (.seq (.ops [
  ⟨(some 2), (.box 25 (.tmp 0)), none⟩, 
  ⟨(some 4), (.mv (.const (.bool false))), none⟩])
 (.seq (.seq (.ops [
    ⟨(some 5), (.mv (.tmp 1)), none⟩])
   (.block 0
    (.seq (.ops [
      ⟨(some 7), (.bin .eql (.tmp 5) (.const (.string ⟨#[]⟩))), none⟩, 
      ⟨(some 6), (.mv (.tmp 7)), none⟩])
     (.cond (.tmp 6)
      (.seq (.ops [
        ⟨(some 8), (.fieldAddr 1 (.tmp 2)), none⟩, 
        ⟨(some 9), (.load1 (.tmp 8)), none⟩, 
        ⟨(some 10), (.bin .eql (.tmp 9) (.const (.string ⟨#[]⟩))), none⟩, 
        ⟨(some 4), (.mv (.tmp 10)), none⟩])
       .ret)
      (.seq (.ops [
        ⟨(some 12), (.bin .eql (.tmp 5) (.const (.string ⟨#[110]⟩))), none⟩, 
        ⟨(some 11), (.mv (.tmp 12)), none⟩])
       (.cond (.tmp 11)
        (.seq (.ops [
          ⟨(some 13), (.fieldAddr 1 (.tmp 2)), none⟩, 
          ⟨(some 14), (.load1 (.tmp 13)), none⟩, 
          ⟨(some 15), (.callF 33 [(.tmp 14)]), none⟩, 
          ⟨(some 4), (.mv (.tmp 15)), none⟩])
         .ret)
        (.seq (.ops [
          ⟨(some 17), (.bin .eql (.tmp 5) (.const (.string ⟨#[109]⟩))), none⟩, 
          ⟨(some 16), (.mv (.tmp 17)), none⟩])
         (.cond (.tmp 16)
          (.seq (.ops [
            ⟨(some 18), (.fieldAddr 1 (.tmp 2)), none⟩, 
            ⟨(some 19), (.load1 (.tmp 18)), none⟩, 
            ⟨(some 20), (.bin .eql (.tmp 19) (.const (.string ⟨#[]⟩))), none⟩, 
            ⟨(some 21), (.mv (.tmp 20)), none⟩, 
            ⟨(some 22), (.fieldAddr 1 (.tmp 2)), (some (21, false))⟩, 
            ⟨(some 23), (.load1 (.tmp 22)), (some (21, false))⟩, 
            ⟨(some 24), (.callF 33 [(.tmp 23)]), (some (21, false))⟩, 
            ⟨(some 25), (.pick (.tmp 21) (.const (.bool true)) (.tmp 24)), none⟩, 
            ⟨(some 4), (.mv (.tmp 25)), none⟩])
           .ret)
          (.seq (.ops [
            ⟨(some 27), (.bin .eql (.tmp 5) (.const (.string ⟨#[105]⟩))), none⟩, 
            ⟨(some 26), (.mv (.tmp 27)), none⟩])
           (.cond (.tmp 26)
            (.seq (.ops [
              ⟨(some 28), (.fieldAddr 1 (.tmp 2)), none⟩, 
              ⟨(some 29), (.load1 (.tmp 28)), none⟩, 
              ⟨(some 30), (.callF 51 [(.tmp 29)]), none⟩, 
              ⟨(some 4), (.mv (.tmp 30)), none⟩])
             .ret)
            (.seq (.ops [
              ⟨(some 32), (.bin .eql (.tmp 5) (.const (.string ⟨#[99]⟩))), none⟩, 
              ⟨(some 31), (.mv (.tmp 32)), none⟩])
             (.cond (.tmp 31)
              (.seq (.seq (.ops [
                 ⟨(some 33), (.fieldAddr 5 (.tmp 2)), none⟩, 
                 ⟨(some 34), (.load1 (.tmp 33)), none⟩, 
                 ⟨(some 35), (.lenSl (.tmp 34)), none⟩, 
                 ⟨(some 36), (.bin .gtr (.tmp 35) (.const (.int .i64 1))), none⟩, 
                 ⟨(some 37), (.mv (.tmp 36)), none⟩, 
                 ⟨(some 38), (.fieldAddr 5 (.tmp 2)), (some (37, true))⟩, 
                 ⟨(some 39), (.load1 (.tmp 38)), (some (37, true))⟩, 
                 ⟨(some 40), (.idxSl 6 (.tmp 39) (.const (.int .i64 1))), (some (37, true))⟩, 
                 ⟨(some 41), (.fieldAddr 0 (.tmp 40)), (some (37, true))⟩, 
                 ⟨(some 42), (.load1 (.tmp 41)), (some (37, true))⟩, 
                 ⟨(some 43), (.bin .eql (.tmp 42) (.const (.int .i64 25))), (some (37, true))⟩, 
                 ⟨(some 44), (.pick (.tmp 37) (.tmp 43) (.const (.bool false))), none⟩])
                (.cond (.tmp 44)
                 (.seq (.ops [
                   ⟨(some 45), (.fieldAddr 1 (.tmp 2)), none⟩, 
                   ⟨(some 46), (.load1 (.tmp 45)), none⟩, 
                   ⟨(some 47), (.callF 33 [(.tmp 46)]), none⟩, 
                   ⟨(some 4), (.mv (.tmp 47)), none⟩])
                  .ret)
                 .skip))
               (.seq (.ops [
                 ⟨(some 48), (.fieldAddr 1 (.tmp 2)), none⟩, 
                 ⟨(some 49), (.load1 (.tmp 48)), none⟩, 
                 ⟨(some 50), (.bin .eql (.tmp 49) (.const (.string ⟨#[]⟩))), none⟩, 
                 ⟨(some 4), (.mv (.tmp 50)), none⟩])
                .ret))
              .skip))))))))))))
  (.seq (.ops [
    ⟨(some 51), (.mv (.tmp 1)), none⟩, 
    ⟨(some 52), (.fieldAddr 1 (.tmp 2)), none⟩, 
    ⟨(some 53), (.load1 (.tmp 52)), none⟩, 
    ⟨(some 54), (.callF 52 [(.tmp 51), (.tmp 53)]), none⟩, 
    ⟨(some 4), (.mv (.tmp 54)), none⟩])
   .ret)))
theorem c30 {args : Array Value} {h : Heap} {R : Ending → Heap → Prop} (ha : args.size ≤ 55) (hh : aexec Tryz.prog ac30 (abody [(.slot 4)] R) ⟨initFr args.toList, []⟩ h) : HCalls Tryz.prog 30 args h R :=
  hcalls_of Tryz.func30 rfl rfl (by kernel_rfl) (by kernel_rfl) ha hh
/-- 31: credenza/units.Check -/
def ac31 : ACode :=
 (.seq (.ops [
  ⟨(some 2), (.mv (.const (.bool false))), none⟩])
 (.seq (.ops [
   ⟨(some 3), (.mv (.tmp 0)), none⟩, 
   ⟨(some 4), (.lenStr (.tmp 3)), none⟩, 
   ⟨(some 5), (.bin .and (.tmp 4) (.const (.int .i64 1))), none⟩, 
   ⟨(some 6), (.bin .eql (.tmp 5) (.const (.int .i64 0))), none⟩, 
   ⟨(some 2), (.mv (.tmp 6)), none⟩])
  .ret))
theorem c31 {args : Array Value} {h : Heap} {R : Ending → Heap → Prop} (ha : args.size ≤ 7) (hh : aexec Tryz.prog ac31 (abody [(.slot 2)] R) ⟨initFr args.toList, []⟩ h) : HCalls Tryz.prog 31 args h R :=
  hcalls_of Tryz.func31 rfl rfl (by kernel_rfl) (by kernel_rfl) ha hh
/-- 32: credenza/tree.may$1 -/
def ac32 : ACode :=
 (.seq (.ops [
  ⟨(some 2), (.mv (.const (.bool false))), none⟩])
 (.seq (.ops [
   ⟨(some 3), (.mv (.tmp 0)), none⟩, 
   ⟨(some 4), (.callF 33 [(.tmp 3)]), none⟩, 
   ⟨(some 5), (.un .not (.tmp 4)), none⟩, 
   ⟨(some 2), (.mv (.tmp 5)), none⟩])
  .ret))
theorem c32 {args : Array Value} {h : Heap} {R : Ending → Heap → Prop} (ha : args.size ≤ 6) (hh : aexec Tryz.prog ac32 (abody [(.slot 2)] R) ⟨initFr args.toList, []⟩ h) : HCalls Tryz.prog 32 args h R :=
  hcalls_of Tryz.func32 rfl rfl (by kernel_rfl) (by kernel_rfl) ha hh
/-- 33: credenza/tree.isName -/
def ac33 : ACode :=
 (.seq (.ops [
  ⟨(some 2), (.mv (.const (.bool false))), none⟩])
 (.seq (.ops [
   ⟨(some 3), (.mv (.tmp 0)), none⟩, 
   ⟨(some 4), (.callF 51 [(.tmp 3)]), none⟩, 
   ⟨(some 5), (.mv (.tmp 4)), none⟩, 
   ⟨(some 6), (.mv (.tmp 0)), (some (5, true))⟩, 
   ⟨(some 7), (.callF 53 [(.tmp 6)]), (some (5, true))⟩, 
   ⟨(some 8), (.un .not (.tmp 7)), (some (5, true))⟩, 
   ⟨(some 9), (.pick (.tmp 5) (.tmp 8) (.const (.bool false))), none⟩, 
   ⟨(some 2), (.mv (.tmp 9)), none⟩])
  .ret))
theorem c33 {args : Array Value} {h : Heap} {R : Ending → Heap → Prop} (ha : args.size ≤ 10) (hh : aexec Tryz.prog ac33 (abody [(.slot 2)] R) ⟨initFr args.toList, []⟩ h) : HCalls Tryz.prog 33 args h R :=
  hcalls_of Tryz.func33 rfl rfl (by kernel_rfl) (by kernel_rfl) ha hh
/-- 35: credenza/tree.fits -/
def ac35 : ACode :=
 (.seq (.ops [
  ⟨(some 2), (.box 25 (.tmp 0)), none⟩, 
  ⟨(some 4), (.mv (.const (.bool false))), none⟩])
 (.seq (.any [8, 9, 10, 11, 12, 13, 14, 15, 16, 17, 18, 19, 20, 21, 22, 5, 6] [
   ⟨(some 8), (.fieldAddr 0 (.tmp 2)), none⟩, 
   ⟨(some 9), (.load1 (.tmp 8)), none⟩, 
   ⟨(some 10), (.fieldAddr 0 (.tmp 2)), none⟩, 
   ⟨(some 11), (.load1 (.tmp 10)), none⟩, 
   ⟨(some 12), (.bin .geq (.tmp 11) (.const (.int .i64 1))), none⟩, 
   ⟨(some 13), (.mv (.tmp 12)), none⟩, 
   ⟨(some 14), (.fieldAddr 0 (.tmp 2)), (some (13, true))⟩, 
   ⟨(some 15), (.load1 (.tmp 14)), (some (13, true))⟩, 
   ⟨(some 16), (.bin .leq (.tmp 15) (.const (.int .i64 21))), (some (13, true))⟩, 
   ⟨(some 17), (.pick (.tmp 13) (.tmp 16) (.const (.bool false))), none⟩, 
   ⟨(some 18), (.mv (.tmp 17)), none⟩, 
   ⟨(some 19), (.fieldAddr 0 (.tmp 2)), (some (18, true))⟩, 
   ⟨(some 20), (.load1 (.tmp 19)), (some (18, true))⟩, 
   ⟨(some 21), (.bin .neq (.tmp 20) (.const (.int .i64 9))), (some (18, true))⟩, 
   ⟨(some 22), (.pick (.tmp 18) (.tmp 21) (.const (.bool false))), none⟩, 
   ⟨(some 5), (.mv (.tmp 9)), none⟩, 
   ⟨(some 6), (.mv (.tmp 22)), none⟩])
  (.seq (.ops [
    ⟨(some 7), (.mv (.const (.bool false))), none⟩])
   (.seq (.seq (.ops [
      ⟨(some 23), (.mv (.tmp 1)), none⟩])
     (.block 0
      (.seq (.ops [
        ⟨(some 25), (.bin .eql (.tmp 23) (.const (.int .u8 101))), none⟩, 
        ⟨(some 24), (.mv (.tmp 25)), none⟩])
       (.cond (.tmp 24)
        (.ops [
         ⟨(some 26), (.mv (.tmp 6)), none⟩, 
         ⟨(some 7), (.mv (.tmp 26)), none⟩])
        (.seq (.ops [
          ⟨(some 28), (.bin .eql (.tmp 23) (.const (.int .u8 116))), none⟩, 
          ⟨(some 27), (.mv (.tmp 28)), none⟩])
         (.cond (.tmp 27)
          (.ops [
           ⟨(some 29), (.loadN 6 (.tmp 2)), none⟩, 
           ⟨(some 30), (.callF 55 [(.tmp 29)]), none⟩, 
           ⟨(some 7), (.mv (.tmp 30)), none⟩])
          (.seq (.ops [
            ⟨(some 32), (.bin .eql (.tmp 23) (.const (.int .u8 102))), none⟩, 
            ⟨(some 31), (.mv (.tmp 32)), none⟩])
           (.cond (.tmp 31)
            (.ops [
             ⟨(some 33), (.mv (.tmp 6)), none⟩, 
             ⟨(some 34), (.mv (.tmp 33)), none⟩, 
             ⟨(some 35), (.mv (.tmp 5)), (some (34, false))⟩, 
             ⟨(some 36), (.bin .eql (.tmp 35) (.const (.int .i64 42))), (some (34, false))⟩, 
             ⟨(some 37), (.pick (.tmp 34) (.const (.bool true)) (.tmp 36)), none⟩, 
             ⟨(some 7), (.mv (.tmp 37)), none⟩])
            (.seq (.ops [
              ⟨(some 39), (.bin .eql (.tmp 23) (.const (.int .u8 98))), none⟩, 
              ⟨(some 38), (.mv (.tmp 39)), none⟩])
             (.cond (.tmp 38)
              (.ops [
               ⟨(some 40), (.mv (.tmp 5)), none⟩, 
               ⟨(some 41), (.bin .eql (.tmp 40) (.const (.int .i64 25))), none⟩, 
               ⟨(some 7), (.mv (.tmp 41)), none⟩])
              (.seq (.ops [
                ⟨(some 43), (.bin .eql (.tmp 23) (.const (.int .u8 99))), none⟩, 
                ⟨(some 42), (.mv (.tmp 43)), none⟩])
               (.cond (.tmp 42)
                (.ops [
                 ⟨(some 44), (.mv (.tmp 5)), none⟩, 
                 ⟨(some 45), (.bin .eql (.tmp 44) (.const (.int .i64 25))), none⟩, 
                 ⟨(some 46), (.mv (.tmp 45)), none⟩, 
                 ⟨(some 47), (.mv (.tmp 5)), (some (46, false))⟩, 
                 ⟨(some 48), (.bin .eql (.tmp 47) (.const (.int .i64 42))), (some (46, false))⟩, 
                 ⟨(some 49), (.pick (.tmp 46) (.const (.bool true)) (.tmp 48)), none⟩, 
                 ⟨(some 7), (.mv (.tmp 49)), none⟩])
                (.seq (.ops [
                  ⟨(some 51), (.bin .eql (.tmp 23) (.const (.int .u8 112))), none⟩, 
                  ⟨(some 50), (.mv (.tmp 51)), none⟩])
                 (.cond (.tmp 50)
                  (.ops [
                   ⟨(some 52), (.mv (.tmp 5)), none⟩, 
                   ⟨(some 53), (.bin .eql (.tmp 52) (.const (.int .i64 9))), none⟩, 
                   ⟨(some 7), (.mv (.tmp 53)), none⟩])
                  (.seq (.ops [
                    ⟨(some 55), (.bin .eql (.tmp 23) (.const (.int .u8 100))), none⟩, 
                    ⟨(some 54), (.mv (.tmp 55)), none⟩])
                   (.cond (.tmp 54)
                    (.ops [
                     ⟨(some 56), (.mv (.tmp 5)), none⟩, 
                     ⟨(some 57), (.bin .eql (.tmp 56) (.const (.int .i64 23))), none⟩, 
                     ⟨(some 7), (.mv (.tmp 57)), none⟩])
                    (.seq (.ops [
                      ⟨(some 59), (.bin .eql (.tmp 23) (.const (.int .u8 118))), none⟩, 
                      ⟨(some 58), (.mv (.tmp 59)), none⟩])
                     (.cond (.tmp 58)
                      (.ops [
                       ⟨(some 60), (.mv (.tmp 6)), none⟩, 
                       ⟨(some 61), (.mv (.tmp 60)), none⟩, 
                       ⟨(some 62), (.mv (.tmp 5)), (some (61, false))⟩, 
                       ⟨(some 63), (.bin .eql (.tmp 62) (.const (.int .i64 42))), (some (61, false))⟩, 
                       ⟨(some 64), (.pick (.tmp 61) (.const (.bool true)) (.tmp 63)), none⟩, 
                       ⟨(some 65), (.mv (.tmp 64)), none⟩, 
                       ⟨(some 66), (.mv (.tmp 5)), (some (65, false))⟩, 
                       ⟨(some 67), (.bin .eql (.tmp 66) (.const (.int .i64 22))), (some (65, false))⟩, 
                       ⟨(some 68), (.pick (.tmp 65) (.const (.bool true)) (.tmp 67)), none⟩, 
                       ⟨(some 7), (.mv (.tmp 68)), none⟩])
                      (.seq (.ops [
                        ⟨(some 70), (.bin .eql (.tmp 23) (.const (.int .u8 119))), none⟩, 
                        ⟨(some 69), (.mv (.tmp 70)), none⟩])
                       (.cond (.tmp 69)
                        (.ops [
                         ⟨(some 71), (.loadN 6 (.tmp 2)), none⟩, 
                         ⟨(some 72), (.callF 55 [(.tmp 71)]), none⟩, 
                         ⟨(some 73), (.mv (.tmp 72)), none⟩, 
                         ⟨(some 74), (.mv (.tmp 5)), (some (73, false))⟩, 
                         ⟨(some 75), (.bin .eql (.tmp 74) (.const (.int .i64 22))), (some (73, false))⟩, 
                         ⟨(some 76), (.mv (.tmp 75)), (some (73, false))⟩, 
                         ⟨(some 77), (.fieldAddr 5 (.tmp 2)), (some (76, true))⟩, 
                         ⟨(some 78), (.load1 (.tmp 77)), (some (76, true))⟩, 
                         ⟨(some 79), (.lenSl (.tmp 78)), (some (76, true))⟩, 
                         ⟨(some 80), (.bin .eql (.tmp 79) (.const (.int .i64 1))), (some (76, true))⟩, 
                         ⟨(some 81), (.pick (.tmp 76) (.tmp 80) (.const (.bool false))), (some (73, false))⟩, 
                         ⟨(some 82), (.mv (.tmp 81)), (some (73, false))⟩, 
                         ⟨(some 83), (.fieldAddr 5 (.tmp 2)), (some (82, true))⟩, 
                         ⟨(some 84), (.load1 (.tmp 83)), (some (82, true))⟩, 
                         ⟨(some 85), (.idxSl 6 (.tmp 84) (.const (.int .i64 0))), (some (82, true))⟩, 
                         ⟨(some 86), (.fieldAddr 5 (.tmp 85)), (some (82, true))⟩, 
                         ⟨(some 87), (.load1 (.tmp 86)), (some (82, true))⟩, 
                         ⟨(some 88), (.lenSl (.tmp 87)), (some (82, true))⟩, 
                         ⟨(some 89), (.bin .eql (.tmp 88) (.const (.int .i64 0))), (some (82, true))⟩, 
                         ⟨(some 90), (.pick (.tmp 82) (.tmp 89) (.const (.bool false))), (some (73, false))⟩, 
                         ⟨(some 91), (.pick (.tmp 73) (.const (.bool true)) (.tmp 90)), none⟩, 
                         ⟨(some 7), (.mv (.tmp 91)), none⟩])
                        (.seq (.ops [
                          ⟨(some 93), (.bin .eql (.tmp 23) (.const (.int .u8 107))), none⟩, 
                          ⟨(some 92), (.mv (.tmp 93)), none⟩])
                         (.cond (.tmp 92)
                          (.ops [
                           ⟨(some 94), (.mv (.tmp 5)), none⟩, 
                           ⟨(some 95), (.bin .eql (.tmp 94) (.const (.int .i64 37))), none⟩, 
                           ⟨(some 7), (.mv (.tmp 95)), none⟩])
                          (.seq (.seq (.ops [
                             ⟨(some 97), (.bin .eql (.tmp 23) (.const (.int .u8 115))), none⟩, 
                             ⟨(some 96), (.mv (.tmp 97)), none⟩])
                            (.cond (.tmp 96)
                             .skip
                             (.ops [
                              ⟨(some 98), (.bin .eql (.tmp 23) (.const (.int .u8 120))), none⟩, 
                              ⟨(some 96), (.mv (.tmp 98)), none⟩])))
                           (.cond (.tmp 96)
                            (.ops [
                             ⟨(some 99), (.mv (.tmp 5)), none⟩, 
                             ⟨(some 100), (.bin .geq (.tmp 99) (.const (.int .i64 22))), none⟩, 
                             ⟨(some 101), (.mv (.tmp 100)), none⟩, 
                             ⟨(some 102), (.mv (.tmp 5)), (some (101, true))⟩, 
                             ⟨(some 103), (.bin .leq (.tmp 102) (.const (.int .i64 40))), (some (101, true))⟩, 
                             ⟨(some 104), (.pick (.tmp 101) (.tmp 103) (.const (.bool false))), none⟩, 
                             ⟨(some 105), (.mv (.tmp 104)), none⟩, 
                             ⟨(some 106), (.mv (.tmp 5)), (some (105, true))⟩, 
                             ⟨(some 107), (.bin .neq (.tmp 106) (.const (.int .i64 23))), (some (105, true))⟩, 
                             ⟨(some 108), (.pick (.tmp 105) (.tmp 107) (.const (.bool false))), none⟩, 
                             ⟨(some 109), (.mv (.tmp 108)), none⟩, 
                             ⟨(some 110), (.mv (.tmp 5)), (some (109, true))⟩, 
                             ⟨(some 111), (.bin .neq (.tmp 110) (.const (.int .i64 37))), (some (109, true))⟩, 
                             ⟨(some 112), (.pick (.tmp 109) (.tmp 111) (.const (.bool false))), none⟩, 
                             ⟨(some 113), (.mv (.tmp 112)), none⟩, 
                             ⟨(some 114), (.mv (.tmp 5)), (some (113, true))⟩, 
                             ⟨(some 115), (.bin .neq (.tmp 114) (.const (.int .i64 39))), (some (113, true))⟩, 
                             ⟨(some 116), (.mv (.tmp 115)), (some (113, true))⟩, 
                             ⟨(some 117), (.mv (.tmp 1)), (some (116, false))⟩, 
                             ⟨(some 118), (.bin .eql (.tmp 117) (.const (.int .u8 120))), (some (116, false))⟩, 
                             ⟨(some 119), (.pick (.tmp 116) (.const (.bool true)) (.tmp 118)), (some (113, true))⟩, 
                             ⟨(some 120), (.pick (.tmp 113) (.tmp 119) (.const (.bool false))), none⟩, 
                             ⟨(some 7), (.mv (.tmp 120)), none⟩])
                            .skip))))))))))))))))))))))))
    (.seq (.ops [
      ⟨(some 121), (.mv (.tmp 7)), none⟩, 
      ⟨(some 122), (.mv (.tmp 121)), none⟩, 
      ⟨(some 123), (.loadN 6 (.tmp 2)), (some (122, true))⟩, 
      ⟨(some 124), (.callF 15 [(.tmp 123)]), (some (122, true))⟩, 
      ⟨(some 125), (.pick (.tmp 122) (.tmp 124) (.const (.bool false))), none⟩, 
      ⟨(some 4), (.mv (.tmp 125)), none⟩])
     .ret)))))
theorem c35 {args : Array Value} {h : Heap} {R : Ending → Heap → Prop} (ha : args.size ≤ 126) (hh : aexec Tryz.prog ac35 (abody [(.slot 4)] R) ⟨initFr args.toList, []⟩ h) : HCalls Tryz.prog 35 args h R :=
  hcalls_of Tryz.func35 rfl rfl (by kernel_rfl) (by kernel_rfl) ha hh
/-- 36: credenza/scope.loop -/
def ac36 : ACode :=
 (.seq (.ops [
  ⟨(some 1), (.box 25 (.tmp 0)), none⟩, 
  ⟨(some 2), (.mv (.const (.bool false))), none⟩])
 (.seq (.ops [
   ⟨(some 3), (.fieldAddr 0 (.tmp 1)), none⟩, 
   ⟨(some 4), (.load1 (.tmp 3)), none⟩, 
   ⟨(some 5), (.bin .geq (.tmp 4) (.const (.int .i64 27))), none⟩, 
   ⟨(some 6), (.mv (.tmp 5)), none⟩, 
   ⟨(some 7), (.fieldAddr 0 (.tmp 1)), (some (6, true))⟩, 
   ⟨(some 8), (.load1 (.tmp 7)), (some (6, true))⟩, 
   ⟨(some 9), (.bin .leq (.tmp 8) (.const (.int .i64 30))), (some (6, true))⟩, 
   ⟨(some 10), (.pick (.tmp 6) (.tmp 9) (.const (.bool false))), none⟩, 
   ⟨(some 2), (.mv (.tmp 10)), none⟩])
  .ret))
theorem c36 {args : Array Value} {h : Heap} {R : Ending → Heap → Prop} (ha : args.size ≤ 11) (hh : aexec Tryz.prog ac36 (abody [(.slot 2)] R) ⟨initFr args.toList, []⟩ h) : HCalls Tryz.prog 36 args h R :=
  hcalls_of Tryz.func36 rfl rfl (by kernel_rfl) (by kernel_rfl) ha hh
/-- 37: slices.IndexFunc[[]string,string] -/
def ac37 : ACode :=
 (.seq (.ops [
  ⟨(some 4), (.mv (.const (.int .i64 0))), none⟩])
 (.seq (.seq (.ops [
    ⟨(some 6), (.mv (.tmp 0)), none⟩, 
    ⟨(some 7), (.lenSl (.tmp 6)), none⟩, 
    ⟨(some 8), (.mv (.const (.int .i64 0))), none⟩])
   (.block 0
    (.loop
     (.seq (.ops [
       ⟨(some 9), (.bin .lss (.tmp 8) (.tmp 7)), none⟩])
      (.seq (.cond (.tmp 9)
        .skip
        (.exit 0))
       (.seq (.block 1
         (.seq (.ops [
           ⟨(some 10), (.mv (.tmp 8)), none⟩, 
           ⟨(some 5), (.mv (.tmp 10)), none⟩])
          (.seq (.ops [
            ⟨(some 11), (.mv (.tmp 1)), none⟩, 
            ⟨(some 12), (.mv (.tmp 0)), none⟩, 
            ⟨(some 13), (.mv (.tmp 5)), none⟩, 
            ⟨(some 14), (.idxSl 1 (.tmp 12) (.tmp 13)), none⟩, 
            ⟨(some 15), (.load1 (.tmp 14)), none⟩, 
            ⟨(some 16), (.callV (.tmp 11) [(.tmp 15)]), none⟩])
           (.cond (.tmp 16)
            (.seq (.ops [
              ⟨(some 17), (.mv (.tmp 5)), none⟩, 
              ⟨(some 4), (.mv (.tmp 17)), none⟩])
             .ret)
            .skip))))
        (.ops [
         ⟨(some 18), (.bin .add (.tmp 8) (.const (.int .i64 1))), none⟩, 
         ⟨(some 8), (.mv (.tmp 18)), none⟩])))))))
  (.seq (.ops [
    ⟨(some 4), (.mv (.const (.int .i64 (-1)))), none⟩])
   .ret)))
theorem c37 {args : Array Value} {h : Heap} {R : Ending → Heap → Prop} (ha : args.size ≤ 19) (hh : aexec Tryz.prog ac37 (abody [(.slot 4)] R) ⟨initFr args.toList, []⟩ h) : HCalls Tryz.prog 37 args h R :=
  hcalls_of Tryz.func37 rfl rfl (by kernel_rfl) (by kernel_rfl) ha hh
/-- 38: slices.Sorted[string] -/
def ac38 : ACode :=
 (.seq (.ops [
  ⟨(some 2), (.mv (.const (.slice none 0 0))), none⟩])
 (.seq (.ops [
   ⟨(some 4), (.mv (.tmp 0)), none⟩, 
   ⟨(some 5), (.callF 56 [(.tmp 4)]), none⟩, 
   ⟨(some 3), (.mv (.tmp 5)), none⟩])
  (.seq (.ops [
    ⟨(some 6), (.mv (.tmp 3)), none⟩, 
    ⟨(some 7), (.callF 57 [(.tmp 6)]), none⟩])
   (.seq (.ops [
     ⟨(some 8), (.mv (.tmp 3)), none⟩, 
     ⟨(some 2), (.mv (.tmp 8)), none⟩])
    .ret))))
theorem c38 {args : Array Value} {h : Heap} {R : Ending → Heap → Prop} (ha : args.size ≤ 9) (hh : aexec Tryz.prog ac38 (abody [(.slot 2)] R) ⟨initFr args.toList, []⟩ h) : HCalls Tryz.prog 38 args h R :=
  hcalls_of Tryz.func38 rfl rfl (by kernel_rfl) (by kernel_rfl) ha hh
/-- 39: slices.Values[[]string,string] -/
def ac39 : ACode :=
 (.seq (.ops [
  ⟨(some 1), (.box 22 (.tmp 0)), none⟩, 
  ⟨(some 2), (.mv (.const .nilFunc)), none⟩])
 (.seq (.ops [
   ⟨(some 3), (.mkFunc (.func 58) [] [(.tmp 1)]), none⟩, 
   ⟨(some 2), (.mv (.tmp 3)), none⟩])
  .ret))
theorem c39 {args : Array Value} {h : Heap} {R : Ending → Heap → Prop} (ha : args.size ≤ 4) (hh : aexec Tryz.prog ac39 (abody [(.slot 2)] R) ⟨initFr args.toList, []⟩ h) : HCalls Tryz.prog 39 args h R :=
  hcalls_of Tryz.func39 rfl rfl (by kernel_rfl) (by kernel_rfl) ha hh
/-- 41: credenza/credenzaref07.named -/
def ac41 : ACode :=
 (.seq (.ops [
  ⟨(some 1), (.box 25 (.tmp 0)), none⟩, 
  ⟨(some 2), (.mv (.const (.bool false))), none⟩])
 (.seq (.seq (.ops [
    ⟨(some 3), (.fieldAddr 0 (.tmp 1)), none⟩, 
    ⟨(some 4), (.load1 (.tmp 3)), none⟩])
   (.block 0
    (.seq (.seq (.ops [
       ⟨(some 6), (.bin .eql (.tmp 4) (.const (.int .i64 3))), none⟩, 
       ⟨(some 5), (.mv (.tmp 6)), none⟩])
      (.cond (.tmp 5)
       .skip
       (.seq (.ops [
         ⟨(some 7), (.bin .eql (.tmp 4) (.const (.int .i64 23))), none⟩, 
         ⟨(some 5), (.mv (.tmp 7)), none⟩])
        (.cond (.tmp 5)
         .skip
         (.seq (.ops [
           ⟨(some 8), (.bin .eql (.tmp 4) (.const (.int .i64 38))), none⟩, 
           ⟨(some 5), (.mv (.tmp 8)), none⟩])
          (.cond (.tmp 5)
           .skip
           (.ops [
            ⟨(some 9), (.bin .eql (.tmp 4) (.const (.int .i64 39))), none⟩, 
            ⟨(some 5), (.mv (.tmp 9)), none⟩])))))))
     (.cond (.tmp 5)
      (.seq (.ops [
        ⟨(some 10), (.fieldAddr 1 (.tmp 1)), none⟩, 
        ⟨(some 11), (.load1 (.tmp 10)), none⟩, 
        ⟨(some 12), (.callF 43 [(.tmp 11)]), none⟩, 
        ⟨(some 2), (.mv (.tmp 12)), none⟩])
       .ret)
      (.seq (.seq (.ops [
         ⟨(some 14), (.bin .eql (.tmp 4) (.const (.int .i64 10))), none⟩, 
         ⟨(some 13), (.mv (.tmp 14)), none⟩])
        (.cond (.tmp 13)
         .skip
         (.seq (.ops [
           ⟨(some 15), (.bin .eql (.tmp 4) (.const (.int .i64 31))), none⟩, 
           ⟨(some 13), (.mv (.tmp 15)), none⟩])
          (.cond (.tmp 13)
           .skip
           (.ops [
            ⟨(some 16), (.bin .eql (.tmp 4) (.const (.int .i64 32))), none⟩, 
            ⟨(some 13), (.mv (.tmp 16)), none⟩])))))
       (.cond (.tmp 13)
        (.seq (.ops [
          ⟨(some 17), (.fieldAddr 1 (.tmp 1)), none⟩, 
          ⟨(some 18), (.load1 (.tmp 17)), none⟩, 
          ⟨(some 19), (.bin .eql (.tmp 18) (.const (.string ⟨#[]⟩))), none⟩, 
          ⟨(some 20), (.mv (.tmp 19)), none⟩, 
          ⟨(some 21), (.fieldAddr 1 (.tmp 1)), (some (20, false))⟩, 
          ⟨(some 22), (.load1 (.tmp 21)), (some (20, false))⟩, 
          ⟨(some 23), (.callF 43 [(.tmp 22)]), (some (20, false))⟩, 
          ⟨(some 24), (.pick (.tmp 20) (.const (.bool true)) (.tmp 23)), none⟩, 
          ⟨(some 2), (.mv (.tmp 24)), none⟩])
         .ret)
        (.seq (.ops [
          ⟨(some 26), (.bin .eql (.tmp 4) (.const (.int .i64 11))), none⟩, 
          ⟨(some 25), (.mv (.tmp 26)), none⟩])
         (.cond (.tmp 25)
          (.seq (.ops [
            ⟨(some 27), (.fieldAddr 1 (.tmp 1)), none⟩, 
            ⟨(some 28), (.load1 (.tmp 27)), none⟩, 
            ⟨(some 29), (.callF 59 [(.tmp 28)]), none⟩, 
            ⟨(some 2), (.mv (.tmp 29)), none⟩])
           .ret)
          (.seq (.ops [
            ⟨(some 31), (.bin .eql (.tmp 4) (.const (.int .i64 35))), none⟩, 
            ⟨(some 30), (.mv (.tmp 31)), none⟩])
           (.cond (.tmp 30)
            (.seq (.seq (.ops [
               ⟨(some 32), (.fieldAddr 5 (.tmp 1)), none⟩, 
               ⟨(some 33), (.load1 (.tmp 32)), none⟩, 
               ⟨(some 34), (.lenSl (.tmp 33)), none⟩, 
               ⟨(some 35), (.bin .eql (.tmp 34) (.const (.int .i64 3))), none⟩, 
               ⟨(some 36), (.mv (.tmp 35)), none⟩, 
               ⟨(some 37), (.fieldAddr 5 (.tmp 1)), (some (36, true))⟩, 
               ⟨(some 38), (.load1 (.tmp 37)), (some (36, true))⟩, 
               ⟨(some 39), (.idxSl 6 (.tmp 38) (.const (.int .i64 1))), (some (36, true))⟩, 
               ⟨(some 40), (.fieldAddr 0 (.tmp 39)), (some (36, true))⟩, 
               ⟨(some 41), (.load1 (.tmp 40)), (some (36, true))⟩, 
               ⟨(some 42), (.bin .eql (.tmp 41) (.const (.int .i64 25))), (some (36, true))⟩, 
               ⟨(some 43), (.pick (.tmp 36) (.tmp 42) (.const (.bool false))), none⟩])
              (.cond (.tmp 43)
               (.seq (.ops [
                 ⟨(some 44), (.fieldAddr 1 (.tmp 1)), none⟩, 
                 ⟨(some 45), (.load1 (.tmp 44)), none⟩, 
                 ⟨(some 46), (.callF 43 [(.tmp 45)]), none⟩, 
                 ⟨(some 2), (.mv (.tmp 46)), none⟩])
                .ret)
               .skip))
             (.seq (.ops [
               ⟨(some 47), (.fieldAddr 1 (.tmp 1)), none⟩, 
               ⟨(some 48), (.load1 (.tmp 47)), none⟩, 
               ⟨(some 49), (.bin .eql (.tmp 48) (.const (.string ⟨#[]⟩))), none⟩, 
               ⟨(some 2), (.mv (.tmp 49)), none⟩])
              .ret))
            (.seq (.seq (.ops [
               ⟨(some 51), (.bin .eql (.tmp 4) (.const (.int .i64 15))), none⟩, 
               ⟨(some 50), (.mv (.tmp 51)), none⟩])
              (.cond (.tmp 50)
               .skip
               (.seq (.ops [
                 ⟨(some 52), (.bin .eql (.tmp 4) (.const (.int .i64 16))), none⟩, 
                 ⟨(some 50), (.mv (.tmp 52)), none⟩])
                (.cond (.tmp 50)
                 .skip
                 (.seq (.ops [
                   ⟨(some 53), (.bin .eql (.tmp 4) (.const (.int .i64 17))), none⟩, 
                   ⟨(some 50), (.mv (.tmp 53)), none⟩])
                  (.cond (.tmp 50)
                   .skip
                   (.seq (.ops [
                     ⟨(some 54), (.bin .eql (.tmp 4) (.const (.int .i64 18))), none⟩, 
                     ⟨(some 50), (.mv (.tmp 54)), none⟩])
                    (.cond (.tmp 50)
                     .skip
                     (.ops [
                      ⟨(some 55), (.bin .eql (.tmp 4) (.const (.int .i64 20))), none⟩, 
                      ⟨(some 50), (.mv (.tmp 55)), none⟩])))))))))
             (.cond (.tmp 50)
              (.seq (.ops [
                ⟨(some 56), (.fieldAddr 0 (.tmp 1)), none⟩, 
                ⟨(some 57), (.load1 (.tmp 56)), none⟩, 
                ⟨(some 58), (.fieldAddr 1 (.tmp 1)), none⟩, 
                ⟨(some 59), (.load1 (.tmp 58)), none⟩, 
                ⟨(some 60), (.callF 60 [(.tmp 57), (.tmp 59)]), none⟩, 
                ⟨(some 2), (.mv (.tmp 60)), none⟩])
               .ret)
              .skip))))))))))))
  (.seq (.ops [
    ⟨(some 61), (.fieldAddr 1 (.tmp 1)), none⟩, 
    ⟨(some 62), (.load1 (.tmp 61)), none⟩, 
    ⟨(some 63), (.bin .eql (.tmp 62) (.const (.string ⟨#[]⟩))), none⟩, 
    ⟨(some 2), (.mv (.tmp 63)), none⟩])
   .ret)))
theorem c41 {args : Array Value} {h : Heap} {R : Ending → Heap → Prop} (ha : args.size ≤ 64) (hh : aexec Tryz.prog ac41 (abody [(.slot 2)] R) ⟨initFr args.toList, []⟩ h) : HCalls Tryz.prog 41 args h R :=
  hcalls_of Tryz.func41 rfl rfl (by kernel_rfl) (by kernel_rfl) ha hh
/-- 42: credenza/credenzaref01.Check -/
def ac42 : ACode :=
 (.seq (.ops [
  ⟨(some 2), (.mv (.const (.bool false))), none⟩])
 (.seq (.ops [
   ⟨(some 3), (.mv (.tmp 0)), none⟩, 
   ⟨(some 4), (.lenStr (.tmp 3)), none⟩, 
   ⟨(some 5), (.bin .rem (.tmp 4) (.const (.int .i64 2))), none⟩, 
   ⟨(some 6), (.bin .eql (.tmp 5) (.const (.int .i64 0))), none⟩, 
   ⟨(some 2), (.mv (.tmp 6)), none⟩])
  .ret))
theorem c42 {args : Array Value} {h : Heap} {R : Ending → Heap → Prop} (ha : args.size ≤ 7) (hh : aexec Tryz.prog ac42 (abody [(.slot 2)] R) ⟨initFr args.toList, []⟩ h) : HCalls Tryz.prog 42 args h R :=
  hcalls_of Tryz.func42 rfl rfl (by kernel_rfl) (by kernel_rfl) ha hh
/-- 43: credenza/credenzaref07.name -/
def ac43 : ACode :=
 (.seq (.ops [
  ⟨(some 2), (.mv (.const (.bool false))), none⟩])
 (.seq (.ops [
   ⟨(some 3), (.mv (.tmp 0)), none⟩, 
   ⟨(some 4), (.callF 59 [(.tmp 3)]), none⟩, 
   ⟨(some 5), (.mv (.tmp 4)), none⟩, 
   ⟨(some 6), (.mv (.tmp 0)), (some (5, true))⟩, 
   ⟨(some 7), (.callF 61 [(.tmp 6)]), (some (5, true))⟩, 
   ⟨(some 8), (.un .not (.tmp 7)), (some (5, true))⟩, 
   ⟨(some 9), (.pick (.tmp 5) (.tmp 8) (.const (.bool false))), none⟩, 
   ⟨(some 2), (.mv (.tmp 9)), none⟩])
  .ret))
theorem c43 {args : Array Value} {h : Heap} {R : Ending → Heap → Prop} (ha : args.size ≤ 10) (hh : aexec Tryz.prog ac43 (abody [(.slot 2)] R) ⟨initFr args.toList, []⟩ h) : HCalls Tryz.prog 43 args h R :=
  hcalls_of Tryz.func43 rfl rfl (by kernel_rfl) (by kernel_rfl) ha hh
/-- 44: credenza/credenzaref07.stmt -/
def ac44 : ACode :=
 (.seq (.ops [
  ⟨(some 1), (.box 25 (.tmp 0)), none⟩, 
  ⟨(some 2), (.mv (.const (.bool false))), none⟩])
 (.seq (.seq (.ops [
    ⟨(some 4), (.loadN 6 (.tmp 1)), none⟩, 
    ⟨(some 5), (.callF 23 [(.tmp 4)]), none⟩, 
    ⟨(some 6), (.un .not (.tmp 5)), none⟩])
   (.cond (.tmp 6)
    (.seq (.ops [
      ⟨(some 2), (.mv (.const (.bool false))), none⟩])
     .ret)
    .skip))
  (.seq (.ops [
    ⟨(some 7), (.fieldAddr 5 (.tmp 1)), none⟩, 
    ⟨(some 8), (.load1 (.tmp 7)), none⟩, 
    ⟨(some 3), (.mv (.tmp 8)), none⟩])
   (.seq (.seq (.ops [
      ⟨(some 9), (.fieldAddr 0 (.tmp 1)), none⟩, 
      ⟨(some 10), (.load1 (.tmp 9)), none⟩])
     (.block 0
      (.seq (.ops [
        ⟨(some 12), (.bin .eql (.tmp 10) (.const (.int .i64 22))), none⟩, 
        ⟨(some 11), (.mv (.tmp 12)), none⟩])
       (.cond (.tmp 11)
        (.seq (.ops [
          ⟨(some 13), (.loadN 6 (.tmp 1)), none⟩, 
          ⟨(some 14), (.callF 62 [(.tmp 13)]), none⟩, 
          ⟨(some 2), (.mv (.tmp 14)), none⟩])
         .ret)
        (.seq (.seq (.ops [
           ⟨(some 16), (.bin .eql (.tmp 10) (.const (.int .i64 24))), none⟩, 
           ⟨(some 15), (.mv (.tmp 16)), none⟩])
          (.cond (.tmp 15)
           .skip
           (.ops [
            ⟨(some 17), (.bin .eql (.tmp 10) (.const (.int .i64 34))), none⟩, 
            ⟨(some 15), (.mv (.tmp 17)), none⟩])))
         (.cond (.tmp 15)
          (.seq (.ops [
            ⟨(some 18), (.mv (.tmp 3)), none⟩, 
            ⟨(some 19), (.lenSl (.tmp 18)), none⟩, 
            ⟨(some 20), (.bin .eql (.tmp 19) (.const (.int .i64 1))), none⟩, 
            ⟨(some 21), (.mv (.tmp 20)), none⟩, 
            ⟨(some 22), (.mv (.tmp 3)), (some (21, true))⟩, 
            ⟨(some 23), (.idxSl 6 (.tmp 22) (.const (.int .i64 0))), (some (21, true))⟩, 
            ⟨(some 24), (.loadN 6 (.tmp 23)), (some (21, true))⟩, 
            ⟨(some 25), (.callF 63 [(.tmp 24)]), (some (21, true))⟩, 
            ⟨(some 26), (.pick (.tmp 21) (.tmp 25) (.const (.bool false))), none⟩, 
            ⟨(some 2), (.mv (.tmp 26)), none⟩])
           .ret)
          (.seq (.ops [
            ⟨(some 28), (.bin .eql (.tmp 10) (.const (.int .i64 25))), none⟩, 
            ⟨(some 27), (.mv (.tmp 28)), none⟩])
           (.cond (.tmp 27)
            (.seq (.ops [
              ⟨(some 29), (.loadN 6 (.tmp 1)), none⟩, 
              ⟨(some 30), (.callF 64 [(.tmp 29)]), none⟩, 
              ⟨(some 2), (.mv (.tmp 30)), none⟩])
             .ret)
            (.seq (.ops [
              ⟨(some 32), (.bin .eql (.tmp 10) (.const (.int .i64 26))), none⟩, 
              ⟨(some 31), (.mv (.tmp 32)), none⟩])
             (.cond (.tmp 31)
              (.seq (.ops [
                ⟨(some 33), (.mv (.tmp 3)), none⟩, 
                ⟨(some 34), (.lenSl (.tmp 33)), none⟩, 
                ⟨(some 35), (.bin .eql (.tmp 34) (.const (.int .i64 2))), none⟩, 
                ⟨(some 36), (.mv (.tmp 35)), none⟩, 
                ⟨(some 37), (.mv (.tmp 3)), (some (36, false))⟩, 
                ⟨(some 38), (.lenSl (.tmp 37)), (some (36, false))⟩, 
                ⟨(some 39), (.bin .eql (.tmp 38) (.const (.int .i64 3))), (some (36, false))⟩, 
                ⟨(some 40), (.mv (.tmp 39)), (some (36, false))⟩, 
                ⟨(some 41), (.mv (.tmp 3)), (some (40, true))⟩, 
                ⟨(some 42), (.idxSl 6 (.tmp 41) (.const (.int .i64 2))), (some (40, true))⟩, 
                ⟨(some 43), (.loadN 6 (.tmp 42)), (some (40, true))⟩, 
                ⟨(some 44), (.callF 64 [(.tmp 43)]), (some (40, true))⟩, 
                ⟨(some 45), (.pick (.tmp 40) (.tmp 44) (.const (.bool false))), (some (36, false))⟩, 
                ⟨(some 46), (.pick (.tmp 36) (.const (.bool true)) (.tmp 45)), none⟩, 
                ⟨(some 47), (.mv (.tmp 46)), none⟩, 
                ⟨(some 48), (.mv (.tmp 3)), (some (47, true))⟩, 
                ⟨(some 49), (.idxSl 6 (.tmp 48) (.const (.int .i64 0))), (some (47, true))⟩, 
                ⟨(some 50), (.loadN 6 (.tmp 49)), (some (47, true))⟩, 
                ⟨(some 51), (.callF 63 [(.tmp 50)]), (some (47, true))⟩, 
                ⟨(some 52), (.pick (.tmp 47) (.tmp 51) (.const (.bool false))), none⟩, 
                ⟨(some 53), (.mv (.tmp 52)), none⟩, 
                ⟨(some 54), (.mv (.tmp 3)), (some (53, true))⟩, 
                ⟨(some 55), (.idxSl 6 (.tmp 54) (.const (.int .i64 1))), (some (53, true))⟩, 
                ⟨(some 56), (.loadN 6 (.tmp 55)), (some (53, true))⟩, 
                ⟨(some 57), (.callF 64 [(.tmp 56)]), (some (53, true))⟩, 
                ⟨(some 58), (.pick (.tmp 53) (.tmp 57) (.const (.bool false))), none⟩, 
                ⟨(some 2), (.mv (.tmp 58)), none⟩])
               .ret)
              (.seq (.seq (.ops [
                 ⟨(some 60), (.bin .eql (.tmp 10) (.const (.int .i64 27))), none⟩, 
                 ⟨(some 59), (.mv (.tmp 60)), none⟩])
                (.cond (.tmp 59)
                 .skip
                 (.seq (.ops [
                   ⟨(some 61), (.bin .eql (.tmp 10) (.const (.int .i64 28))), none⟩, 
                   ⟨(some 59), (.mv (.tmp 61)), none⟩])
                  (.cond (.tmp 59)
                   .skip
                   (.seq (.ops [
                     ⟨(some 62), (.bin .eql (.tmp 10) (.const (.int .i64 29))), none⟩, 
                     ⟨(some 59), (.mv (.tmp 62)), none⟩])
                    (.cond (.tmp 59)
                     .skip
                     (.ops [
                      ⟨(some 63), (.bin .eql (.tmp 10) (.const (.int .i64 30))), none⟩, 
                      ⟨(some 59), (.mv (.tmp 63)), none⟩])))))))
               (.cond (.tmp 59)
                (.seq (.ops [
                  ⟨(some 64), (.loadN 6 (.tmp 1)), none⟩, 
                  ⟨(some 65), (.callF 65 [(.tmp 64)]), none⟩, 
                  ⟨(some 2), (.mv (.tmp 65)), none⟩])
                 .ret)
                (.seq (.seq (.ops [
                   ⟨(some 67), (.bin .eql (.tmp 10) (.const (.int .i64 31))), none⟩, 
                   ⟨(some 66), (.mv (.tmp 67)), none⟩])
                  (.cond (.tmp 66)
                   .skip
                   (.seq (.ops [
                     ⟨(some 68), (.bin .eql (.tmp 10) (.const (.int .i64 32))), none⟩, 
                     ⟨(some 66), (.mv (.tmp 68)), none⟩])
                    (.cond (.tmp 66)
                     .skip
                     (.ops [
                      ⟨(some 69), (.bin .eql (.tmp 10) (.const (.int .i64 40))), none⟩, 
                      ⟨(some 66), (.mv (.tmp 69)), none⟩])))))
                 (.cond (.tmp 66)
                  (.seq (.ops [
                    ⟨(some 70), (.mv (.tmp 3)), none⟩, 
                    ⟨(some 71), (.lenSl (.tmp 70)), none⟩, 
                    ⟨(some 72), (.bin .eql (.tmp 71) (.const (.int .i64 0))), none⟩, 
                    ⟨(some 2), (.mv (.tmp 72)), none⟩])
                   .ret)
                  (.seq (.ops [
                    ⟨(some 74), (.bin .eql (.tmp 10) (.const (.int .i64 33))), none⟩, 
                    ⟨(some 73), (.mv (.tmp 74)), none⟩])
                   (.cond (.tmp 73)
                    (.seq (.ops [
                      ⟨(some 75), (.mv (.tmp 3)), none⟩, 
                      ⟨(some 76), (.lenSl (.tmp 75)), none⟩, 
                      ⟨(some 77), (.bin .leq (.tmp 76) (.const (.int .i64 1))), none⟩, 
                      ⟨(some 78), (.mv (.tmp 77)), none⟩, 
                      ⟨(some 79), (.mv (.tmp 3)), (some (78, true))⟩, 
                      ⟨(some 80), (.callF 66 [(.tmp 79)]), (some (78, true))⟩, 
                      ⟨(some 81), (.pick (.tmp 78) (.tmp 80) (.const (.bool false))), none⟩, 
                      ⟨(some 2), (.mv (.tmp 81)), none⟩])
                     .ret)
                    (.seq (.ops [
                      ⟨(some 83), (.bin .eql (.tmp 10) (.const (.int .i64 35))), none⟩, 
                      ⟨(some 82), (.mv (.tmp 83)), none⟩])
                     (.cond (.tmp 82)
                      (.seq (.ops [
                        ⟨(some 84), (.mv (.tmp 3)), none⟩, 
                        ⟨(some 85), (.lenSl (.tmp 84)), none⟩, 
                        ⟨(some 86), (.bin .eql (.tmp 85) (.const (.int .i64 3))), none⟩, 
                        ⟨(some 87), (.mv (.tmp 86)), none⟩, 
                        ⟨(some 88), (.mv (.tmp 3)), (some (87, true))⟩, 
                        ⟨(some 89), (.idxSl 6 (.tmp 88) (.const (.int .i64 0))), (some (87, true))⟩, 
                        ⟨(some 90), (.loadN 6 (.tmp 89)), (some (87, true))⟩, 
                        ⟨(some 91), (.callF 64 [(.tmp 90)]), (some (87, true))⟩, 
                        ⟨(some 92), (.pick (.tmp 87) (.tmp 91) (.const (.bool false))), none⟩, 
                        ⟨(some 93), (.mv (.tmp 92)), none⟩, 
                        ⟨(some 94), (.mv (.tmp 3)), (some (93, true))⟩, 
                        ⟨(some 95), (.idxSl 6 (.tmp 94) (.const (.int .i64 1))), (some (93, true))⟩, 
                        ⟨(some 96), (.loadN 6 (.tmp 95)), (some (93, true))⟩, 
                        ⟨(some 97), (.callF 64 [(.tmp 96)]), (some (93, true))⟩, 
                        ⟨(some 98), (.mv (.tmp 97)), (some (93, true))⟩, 
                        ⟨(some 99), (.mv (.tmp 3)), (some (98, false))⟩, 
                        ⟨(some 100), (.idxSl 6 (.tmp 99) (.const (.int .i64 1))), (some (98, false))⟩, 
                        ⟨(some 101), (.loadN 6 (.tmp 100)), (some (98, false))⟩, 
                        ⟨(some 102), (.callF 67 [(.tmp 101)]), (some (98, false))⟩, 
                        ⟨(some 103), (.pick (.tmp 98) (.const (.bool true)) (.tmp 102)), (some (93, true))⟩, 
                        ⟨(some 104), (.pick (.tmp 93) (.tmp 103) (.const (.bool false))), none⟩, 
                        ⟨(some 105), (.mv (.tmp 104)), none⟩, 
                        ⟨(some 106), (.mv (.tmp 3)), (some (105, true))⟩, 
                        ⟨(some 107), (.idxSl 6 (.tmp 106) (.const (.int .i64 2))), (some (105, true))⟩, 
                        ⟨(some 108), (.loadN 6 (.tmp 107)), (some (105, true))⟩, 
                        ⟨(some 109), (.callF 64 [(.tmp 108)]), (some (105, true))⟩, 
                        ⟨(some 110), (.mv (.tmp 109)), (some (105, true))⟩, 
                        ⟨(some 111), (.mv (.tmp 3)), (some (110, false))⟩, 
                        ⟨(some 112), (.idxSl 6 (.tmp 111) (.const (.int .i64 2))), (some (110, false))⟩, 
                        ⟨(some 113), (.loadN 6 (.tmp 112)), (some (110, false))⟩, 
                        ⟨(some 114), (.callF 67 [(.tmp 113)]), (some (110, false))⟩, 
                        ⟨(some 115), (.pick (.tmp 110) (.const (.bool true)) (.tmp 114)), (some (105, true))⟩, 
                        ⟨(some 116), (.pick (.tmp 105) (.tmp 115) (.const (.bool false))), none⟩, 
                        ⟨(some 117), (.mv (.tmp 116)), none⟩, 
                        ⟨(some 118), (.mv (.tmp 3)), (some (117, true))⟩, 
                        ⟨(some 119), (.idxSl 6 (.tmp 118) (.const (.int .i64 1))), (some (117, true))⟩, 
                        ⟨(some 120), (.loadN 6 (.tmp 119)), (some (117, true))⟩, 
                        ⟨(some 121), (.callF 67 [(.tmp 120)]), (some (117, true))⟩, 
                        ⟨(some 122), (.mv (.tmp 121)), (some (117, true))⟩, 
                        ⟨(some 123), (.mv (.tmp 3)), (some (122, true))⟩, 
                        ⟨(some 124), (.idxSl 6 (.tmp 123) (.const (.int .i64 2))), (some (122, true))⟩, 
                        ⟨(some 125), (.loadN 6 (.tmp 124)), (some (122, true))⟩, 
                        ⟨(some 126), (.callF 67 [(.tmp 125)]), (some (122, true))⟩, 
                        ⟨(some 127), (.pick (.tmp 122) (.tmp 126) (.const (.bool false))), (some (117, true))⟩, 
                        ⟨(some 128), (.un .not (.tmp 127)), (some (117, true))⟩, 
                        ⟨(some 129), (.pick (.tmp 117) (.tmp 128) (.const (.bool false))), none⟩, 
                        ⟨(some 2), (.mv (.tmp 129)), none⟩])
                       .ret)
                      (.seq (.ops [
                        ⟨(some 131), (.bin .eql (.tmp 10) (.const (.int .i64 36))), none⟩, 
                        ⟨(some 130), (.mv (.tmp 131)), none⟩])
                       (.cond (.tmp 130)
                        (.seq (.ops [
                          ⟨(some 132), (.mv (.tmp 3)), none⟩, 
                          ⟨(some 133), (.lenSl (.tmp 132)), none⟩, 
                          ⟨(some 134), (.bin .geq (.tmp 133) (.const (.int .i64 1))), none⟩, 
                          ⟨(some 135), (.mv (.tmp 134)), none⟩, 
                          ⟨(some 136), (.mv (.tmp 3)), (some (135, true))⟩, 
                          ⟨(some 137), (.idxSl 6 (.tmp 136) (.const (.int .i64 0))), (some (135, true))⟩, 
                          ⟨(some 138), (.loadN 6 (.tmp 137)), (some (135, true))⟩, 
                          ⟨(some 139), (.callF 63 [(.tmp 138)]), (some (135, true))⟩, 
                          ⟨(some 140), (.pick (.tmp 135) (.tmp 139) (.const (.bool false))), none⟩, 
                          ⟨(some 141), (.mv (.tmp 140)), none⟩, 
                          ⟨(some 142), (.mv (.tmp 3)), (some (141, true))⟩, 
                          ⟨(some 143), (.sliceSl 6 (.tmp 142) (some (.const (.int .i64 1))) none none), (some (141, true))⟩, 
                          ⟨(some 144), (.callF 68 [(.tmp 143)]), (some (141, true))⟩, 
                          ⟨(some 145), (.pick (.tmp 141) (.tmp 144) (.const (.bool false))), none⟩, 
                          ⟨(some 2), (.mv (.tmp 145)), none⟩])
                         .ret)
                        (.seq (.ops [
                          ⟨(some 147), (.bin .eql (.tmp 10) (.const (.int .i64 38))), none⟩, 
                          ⟨(some 146), (.mv (.tmp 147)), none⟩])
                         (.cond (.tmp 146)
                          (.seq (.ops [
                            ⟨(some 148), (.mv (.tmp 3)), none⟩, 
                            ⟨(some 149), (.lenSl (.tmp 148)), none⟩, 
                            ⟨(some 150), (.bin .eql (.tmp 149) (.const (.int .i64 1))), none⟩, 
                            ⟨(some 151), (.mv (.tmp 150)), none⟩, 
                            ⟨(some 152), (.mv (.tmp 3)), (some (151, true))⟩, 
                            ⟨(some 153), (.idxSl 6 (.tmp 152) (.const (.int .i64 0))), (some (151, true))⟩, 
                            ⟨(some 154), (.loadN 6 (.tmp 153)), (some (151, true))⟩, 
                            ⟨(some 155), (.callF 44 [(.tmp 154)]), (some (151, true))⟩, 
                            ⟨(some 156), (.pick (.tmp 151) (.tmp 155) (.const (.bool false))), none⟩, 
                            ⟨(some 2), (.mv (.tmp 156)), none⟩])
                           .ret)
                          .skip))))))))))))))))))))))
    (.seq (.ops [
      ⟨(some 2), (.mv (.const (.bool false))), none⟩])
     .ret)))))
theorem c44 {args : Array Value} {h : Heap} {R : Ending → Heap → Prop} (ha : args.size ≤ 157) (hh : aexec Tryz.prog ac44 (abody [(.slot 2)] R) ⟨initFr args.toList, []⟩ h) : HCalls Tryz.prog 44 args h R :=
  hcalls_of Tryz.func44 rfl rfl (by kernel_rfl) (by kernel_rfl) ha hh
/-- 45: credenza/credenzaref09.bad -/
def ac45 : ACode :=
 (.seq (.ops [
  ⟨(some 2), (.mv (.const (.bool false))), none⟩])
 (.seq (.ops [
   ⟨(some 3), (.mv (.tmp 0)), none⟩, 
   ⟨(some 4), (.bin .eql (.tmp 3) (.const (.string ⟨#[101, 118, 97, 108]⟩))), none⟩, 
   ⟨(some 5), (.mv (.tmp 4)), none⟩, 
   ⟨(some 6), (.mv (.tmp 0)), (some (5, false))⟩, 
   ⟨(some 7), (.bin .eql (.tmp 6) (.const (.string ⟨#[97, 114, 103, 117, 109, 101, 110, 116, 115]⟩))), (some (5, false))⟩, 
   ⟨(some 8), (.pick (.tmp 5) (.const (.bool true)) (.tmp 7)), none⟩, 
   ⟨(some 2), (.mv (.tmp 8)), none⟩])
  .ret))
theorem c45 {args : Array Value} {h : Heap} {R : Ending → Heap → Prop} (ha : args.size ≤ 9) (hh : aexec Tryz.prog ac45 (abody [(.slot 2)] R) ⟨initFr args.toList, []⟩ h) : HCalls Tryz.prog 45 args h R :=
  hcalls_of Tryz.func45 rfl rfl (by kernel_rfl) (by kernel_rfl) ha hh
/-- 46: credenza/credenzaref09.twice -/
def ac46 : ACode :=
 (.seq (.ops [
  ⟨(some 2), (.mv (.const (.bool false))), none⟩])
 (.seq (.seq (.ops [
    ⟨(some 5), (.mv (.tmp 0)), none⟩, 
    ⟨(some 6), (.lenSl (.tmp 5)), none⟩, 
    ⟨(some 7), (.mv (.const (.int .i64 0))), none⟩])
   (.block 0
    (.loop
     (.seq (.ops [
       ⟨(some 8), (.bin .lss (.tmp 7) (.tmp 6)), none⟩])
      (.seq (.cond (.tmp 8)
        .skip
        (.exit 0))
       (.seq (.block 1
         (.seq (.ops [
           ⟨(some 9), (.mv (.tmp 7)), none⟩, 
           ⟨(some 10), (.idxSl 1 (.tmp 5) (.tmp 7)), none⟩, 
           ⟨(some 11), (.load1 (.tmp 10)), none⟩, 
           ⟨(some 3), (.mv (.tmp 9)), none⟩, 
           ⟨(some 4), (.mv (.tmp 11)), none⟩])
          (.seq (.ops [
            ⟨(some 12), (.mv (.tmp 0)), none⟩, 
            ⟨(some 13), (.mv (.tmp 3)), none⟩, 
            ⟨(some 14), (.sliceSl 1 (.tmp 12) none (some (.tmp 13)) none), none⟩, 
            ⟨(some 15), (.mv (.tmp 4)), none⟩, 
            ⟨(some 16), (.callF 48 [(.tmp 14), (.tmp 15)]), none⟩])
           (.cond (.tmp 16)
            (.seq (.ops [
              ⟨(some 2), (.mv (.const (.bool true))), none⟩])
             .ret)
            .skip))))
        (.ops [
         ⟨(some 17), (.bin .add (.tmp 7) (.const (.int .i64 1))), none⟩, 
         ⟨(some 7), (.mv (.tmp 17)), none⟩])))))))
  (.seq (.ops [
    ⟨(some 2), (.mv (.const (.bool false))), none⟩])
   .ret)))
theorem c46 {args : Array Value} {h : Heap} {R : Ending → Heap → Prop} (ha : args.size ≤ 18) (hh : aexec Tryz.prog ac46 (abody [(.slot 2)] R) ⟨initFr args.toList, []⟩ h) : HCalls Tryz.prog 46 args h R :=
  hcalls_of Tryz.func46 rfl rfl (by kernel_rfl) (by kernel_rfl) ha hh
/-- 47: credenza/credenzaref09.target -/
def ac47 : ACode :=
 (.seq (.ops [
  ⟨(some 1), (.box 25 (.tmp 0)), none⟩, 
  ⟨(some 2), (.mv (.const (.bool false))), none⟩])
 (.seq (.ops [
   ⟨(some 3), (.fieldAddr 0 (.tmp 1)), none⟩, 
   ⟨(some 4), (.load1 (.tmp 3)), none⟩, 
   ⟨(some 5), (.bin .eql (.tmp 4) (.const (.int .i64 3))), none⟩, 
   ⟨(some 6), (.mv (.tmp 5)), none⟩, 
   ⟨(some 7), (.fieldAddr 1 (.tmp 1)), (some (6, true))⟩, 
   ⟨(some 8), (.load1 (.tmp 7)), (some (6, true))⟩, 
   ⟨(some 9), (.callF 45 [(.tmp 8)]), (some (6, true))⟩, 
   ⟨(some 10), (.pick (.tmp 6) (.tmp 9) (.const (.bool false))), none⟩, 
   ⟨(some 2), (.mv (.tmp 10)), none⟩])
  .ret))
theorem c47 {args : Array Value} {h : Heap} {R : Ending → Heap → Prop} (ha : args.size ≤ 11) (hh : aexec Tryz.prog ac47 (abody [(.slot 2)] R) ⟨initFr args.toList, []⟩ h) : HCalls Tryz.prog 47 args h R :=
  hcalls_of Tryz.func47 rfl rfl (by kernel_rfl) (by kernel_rfl) ha hh
/-- 48: credenza/credenzaref09.has -/
def ac48 : ACode :=
 (.seq (.ops [
  ⟨(some 4), (.mv (.const (.bool false))), none⟩])
 (.seq (.seq (.ops [
    ⟨(some 7), (.mv (.tmp 0)), none⟩, 
    ⟨(some 8), (.lenSl (.tmp 7)), none⟩, 
    ⟨(some 9), (.mv (.const (.int .i64 0))), none⟩])
   (.block 0
    (.loop
     (.seq (.ops [
       ⟨(some 10), (.bin .lss (.tmp 9) (.tmp 8)), none⟩])
      (.seq (.cond (.tmp 10)
        .skip
        (.exit 0))
       (.seq (.block 1
         (.seq (.ops [
           ⟨(some 11), (.idxSl 1 (.tmp 7) (.tmp 9)), none⟩, 
           ⟨(some 12), (.load1 (.tmp 11)), none⟩, 
           ⟨(some 6), (.mv (.tmp 12)), none⟩])
          (.seq (.ops [
            ⟨(some 13), (.mv (.tmp 6)), none⟩, 
            ⟨(some 14), (.mv (.tmp 1)), none⟩, 
            ⟨(some 15), (.bin .eql (.tmp 13) (.tmp 14)), none⟩])
           (.cond (.tmp 15)
            (.seq (.ops [
              ⟨(some 4), (.mv (.const (.bool true))), none⟩])
             .ret)
            .skip))))
        (.ops [
         ⟨(some 16), (.bin .add (.tmp 9) (.const (.int .i64 1))), none⟩, 
         ⟨(some 9), (.mv (.tmp 16)), none⟩])))))))
  (.seq (.ops [
    ⟨(some 4), (.mv (.const (.bool false))), none⟩])
   .ret)))
theorem c48 {args : Array Value} {h : Heap} {R : Ending → Heap → Prop} (ha : args.size ≤ 17) (hh : aexec Tryz.prog ac48 (abody [(.slot 4)] R) ⟨initFr args.toList, []⟩ h) : HCalls Tryz.prog 48 args h R :=
  hcalls_of Tryz.func48 rfl rfl (by kernel_rfl) (by kernel_rfl) ha hh
/-- 49: credenza/credenzaref09.isLoop -/
def ac49 : ACode :=
 (.seq (.ops [
  ⟨(some 1), (.box 25 (.tmp 0)), none⟩, 
  ⟨(some 2), (.mv (.const (.bool false))), none⟩])
 (.seq (.seq (.ops [
    ⟨(some 3), (.fieldAddr 0 (.tmp 1)), none⟩, 
    ⟨(some 4), (.load1 (.tmp 3)), none⟩])
   (.block 0
    (.seq (.seq (.ops [
       ⟨(some 6), (.bin .eql (.tmp 4) (.const (.int .i64 27))), none⟩, 
       ⟨(some 5), (.mv (.tmp 6)), none⟩])
      (.cond (.tmp 5)
       .skip
       (.seq (.ops [
         ⟨(some 7), (.bin .eql (.tmp 4) (.const (.int .i64 28))), none⟩, 
         ⟨(some 5), (.mv (.tmp 7)), none⟩])
        (.cond (.tmp 5)
         .skip
         (.seq (.ops [
           ⟨(some 8), (.bin .eql (.tmp 4) (.const (.int .i64 29))), none⟩, 
           ⟨(some 5), (.mv (.tmp 8)), none⟩])
          (.cond (.tmp 5)
           .skip
           (.ops [
            ⟨(some 9), (.bin .eql (.tmp 4) (.const (.int .i64 30))), none⟩, 
            ⟨(some 5), (.mv (.tmp 9)), none⟩])))))))
     (.cond (.tmp 5)
      (.seq (.ops [
        ⟨(some 2), (.mv (.const (.bool true))), none⟩])
       .ret)
      .skip))))
  (.seq (.ops [
    ⟨(some 2), (.mv (.const (.bool false))), none⟩])
   .ret)))
theorem c49 {args : Array Value} {h : Heap} {R : Ending → Heap → Prop} (ha : args.size ≤ 10) (hh : aexec Tryz.prog ac49 (abody [(.slot 2)] R) ⟨initFr args.toList, []⟩ h) : HCalls Tryz.prog 49 args h R :=
  hcalls_of Tryz.func49 rfl rfl (by kernel_rfl) (by kernel_rfl) ha hh
/-- 50: credenza/tree.statement -/
def ac50 : ACode :=
 (.seq (.ops [
  ⟨(some 1), (.box 25 (.tmp 0)), none⟩, 
  ⟨(some 2), (.new 55 [(.string ⟨#[]⟩), (.int .i64 0), (.bool false), (.bool false), (.string ⟨#[]⟩)]), none⟩, 
  ⟨(some 3), (.mv (.const (.bool false))), none⟩])
 (.seq (.seq (.ops [
    ⟨(some 4), (.fieldAddr 0 (.tmp 1)), none⟩, 
    ⟨(some 5), (.load1 (.tmp 4)), none⟩])
   (.block 0
    (.seq (.ops [
      ⟨(some 8), (.bin .eql (.tmp 5) (.const (.int .i64 22))), none⟩, 
      ⟨(some 7), (.mv (.tmp 8)), none⟩])
     (.cond (.tmp 7)
      (.ops [
       ⟨(some 9), (.fieldAddr 4 (.tmp 2)), none⟩, 
       ⟨none, (.store1 (.tmp 9) (.const (.string ⟨#[100, 42, 100]⟩))), none⟩])
      (.seq (.ops [
        ⟨(some 11), (.bin .eql (.tmp 5) (.const (.int .i64 23))), none⟩, 
        ⟨(some 10), (.mv (.tmp 11)), none⟩])
       (.cond (.tmp 10)
        (.seq (.any [12, 13, 14, 15, 16, 17, 18] [
          ⟨(some 12), (.fieldAddr 5 (.tmp 1)), none⟩, 
          ⟨(some 17), (.fieldAddr 0 (.tmp 2)), none⟩])
         (.alt
          (.any [12, 13, 14, 15, 16, 17, 18] [
           ⟨(some 13), (.load1 (.tmp 12)), none⟩, 
           ⟨(some 14), (.lenSl (.tmp 13)), none⟩, 
           ⟨(some 15), (.minmax false (.tmp 14) [(.const (.int .i64 1))]), none⟩, 
           ⟨(some 16), (.sliceStr (.const (.string ⟨#[101]⟩)) none (some (.tmp 15))), none⟩, 
           ⟨none, (.store1 (.tmp 17) (.const (.string ⟨#[110]⟩))), none⟩, 
           ⟨(some 18), (.fieldAddr 4 (.tmp 2)), none⟩, 
           ⟨none, (.store1 (.tmp 18) (.tmp 16)), none⟩])
          (.any [12, 13, 14, 15, 16, 17, 18] [
           ⟨none, (.store1 (.tmp 17) (.const (.string ⟨#[110]⟩))), none⟩, 
           ⟨(some 13), (.load1 (.tmp 12)), none⟩, 
           ⟨(some 14), (.lenSl (.tmp 13)), none⟩, 
           ⟨(some 15), (.minmax false (.tmp 14) [(.const (.int .i64 1))]), none⟩, 
           ⟨(some 16), (.sliceStr (.const (.string ⟨#[101]⟩)) none (some (.tmp 15))), none⟩, 
           ⟨(some 18), (.fieldAddr 4 (.tmp 2)), none⟩, 
           ⟨none, (.store1 (.tmp 18) (.tmp 16)), none⟩])))
        (.seq (.seq (.ops [
           ⟨(some 20), (.bin .eql (.tmp 5) (.const (.int .i64 24))), none⟩, 
           ⟨(some 19), (.mv (.tmp 20)), none⟩])
          (.cond (.tmp 19)
           .skip
           (.ops [
            ⟨(some 21), (.bin .eql (.tmp 5) (.const (.int .i64 34))), none⟩, 
            ⟨(some 19), (.mv (.tmp 21)), none⟩])))
         (.cond (.tmp 19)
          (.ops [
           ⟨(some 22), (.fieldAddr 4 (.tmp 2)), none⟩, 
           ⟨none, (.store1 (.tmp 22) (.const (.string ⟨#[101]⟩))), none⟩])
          (.seq (.ops [
            ⟨(some 24), (.bin .eql (.tmp 5) (.const (.int .i64 25))), none⟩, 
            ⟨(some 23), (.mv (.tmp 24)), none⟩])
           (.cond (.tmp 23)
            (.ops [
             ⟨(some 25), (.fieldAddr 4 (.tmp 2)), none⟩, 
             ⟨none, (.store1 (.tmp 25) (.const (.string ⟨#[42, 115]⟩))), none⟩])
            (.seq (.ops [
              ⟨(some 27), (.bin .eql (.tmp 5) (.const (.int .i64 26))), none⟩, 
              ⟨(some 26), (.mv (.tmp 27)), none⟩])
             (.cond (.tmp 26)
              (.ops [
               ⟨(some 28), (.fieldAddr 5 (.tmp 1)), none⟩, 
               ⟨(some 29), (.load1 (.tmp 28)), none⟩, 
               ⟨(some 30), (.lenSl (.tmp 29)), none⟩, 
               ⟨(some 31), (.minmax true (.tmp 30) [(.const (.int .i64 2))]), none⟩, 
               ⟨(some 32), (.minmax false (.tmp 31) [(.const (.int .i64 3))]), none⟩, 
               ⟨(some 33), (.sliceStr (.const (.string ⟨#[101, 98, 98]⟩)) none (some (.tmp 32))), none⟩, 
               ⟨(some 34), (.fieldAddr 4 (.tmp 2)), none⟩, 
               ⟨none, (.store1 (.tmp 34) (.tmp 33)), none⟩])
              (.seq (.ops [
                ⟨(some 36), (.bin .eql (.tmp 5) (.const (.int .i64 27))), none⟩, 
                ⟨(some 35), (.mv (.tmp 36)), none⟩])
               (.cond (.tmp 35)
                (.ops [
                 ⟨(some 37), (.fieldAddr 4 (.tmp 2)), none⟩, 
                 ⟨none, (.store1 (.tmp 37) (.const (.string ⟨#[101, 98]⟩))), none⟩])
                (.seq (.ops [
                  ⟨(some 39), (.bin .eql (.tmp 5) (.const (.int .i64 28))), none⟩, 
                  ⟨(some 38), (.mv (.tmp 39)), none⟩])
                 (.cond (.tmp 38)
                  (.ops [
                   ⟨(some 40), (.fieldAddr 4 (.tmp 2)), none⟩, 
                   ⟨none, (.store1 (.tmp 40) (.const (.string ⟨#[98, 101]⟩))), none⟩])
                  (.seq (.ops [
                    ⟨(some 42), (.bin .eql (.tmp 5) (.const (.int .i64 29))), none⟩, 
                    ⟨(some 41), (.mv (.tmp 42)), none⟩])
                   (.cond (.tmp 41)
                    (.ops [
                     ⟨(some 43), (.fieldAddr 4 (.tmp 2)), none⟩, 
                     ⟨none, (.store1 (.tmp 43) (.const (.string ⟨#[118, 102, 102, 98]⟩))), none⟩])
                    (.seq (.ops [
                      ⟨(some 45), (.bin .eql (.tmp 5) (.const (.int .i64 30))), none⟩, 
                      ⟨(some 44), (.mv (.tmp 45)), none⟩])
                     (.cond (.tmp 44)
                      (.ops [
                       ⟨(some 46), (.fieldAddr 4 (.tmp 2)), none⟩, 
                       ⟨none, (.store1 (.tmp 46) (.const (.string ⟨#[119, 101, 98]⟩))), none⟩])
                      (.seq (.seq (.ops [
                         ⟨(some 48), (.bin .eql (.tmp 5) (.const (.int .i64 31))), none⟩, 
                         ⟨(some 47), (.mv (.tmp 48)), none⟩])
                        (.cond (.tmp 47)
                         .skip
                         (.ops [
                          ⟨(some 49), (.bin .eql (.tmp 5) (.const (.int .i64 32))), none⟩, 
                          ⟨(some 47), (.mv (.tmp 49)), none⟩])))
                       (.cond (.tmp 47)
                        (.ops [
                         ⟨(some 50), (.fieldAddr 0 (.tmp 2)), none⟩, 
                         ⟨none, (.store1 (.tmp 50) (.const (.string ⟨#[109]⟩))), none⟩])
                        (.seq (.ops [
                          ⟨(some 52), (.bin .eql (.tmp 5) (.const (.int .i64 33))), none⟩, 
                          ⟨(some 51), (.mv (.tmp 52)), none⟩])
                         (.cond (.tmp 51)
                          (.ops [
                           ⟨(some 53), (.fieldAddr 5 (.tmp 1)), none⟩, 
                           ⟨(some 54), (.load1 (.tmp 53)), none⟩, 
                           ⟨(some 55), (.lenSl (.tmp 54)), none⟩, 
                           ⟨(some 56), (.minmax false (.tmp 55) [(.const (.int .i64 1))]), none⟩, 
                           ⟨(some 57), (.sliceStr (.const (.string ⟨#[101]⟩)) none (some (.tmp 56))), none⟩, 
                           ⟨(some 58), (.fieldAddr 4 (.tmp 2)), none⟩, 
                           ⟨none, (.store1 (.tmp 58) (.tmp 57)), none⟩])
                          (.seq (.ops [
                            ⟨(some 60), (.bin .eql (.tmp 5) (.const (.int .i64 35))), none⟩, 
                            ⟨(some 59), (.mv (.tmp 60)), none⟩])
                           (.cond (.tmp 59)
                            (.ops [
                             ⟨(some 61), (.fieldAddr 0 (.tmp 2)), none⟩, 
                             ⟨none, (.store1 (.tmp 61) (.const (.string ⟨#[99]⟩))), none⟩, 
                             ⟨(some 62), (.fieldAddr 4 (.tmp 2)), none⟩, 
                             ⟨none, (.store1 (.tmp 62) (.const (.string ⟨#[98, 99, 99]⟩))), none⟩])
                            (.seq (.ops [
                              ⟨(some 64), (.bin .eql (.tmp 5) (.const (.int .i64 36))), none⟩, 
                              ⟨(some 63), (.mv (.tmp 64)), none⟩])
                             (.cond (.tmp 63)
                              (.ops [
                               ⟨(some 65), (.fieldAddr 4 (.tmp 2)), none⟩, 
                               ⟨none, (.store1 (.tmp 65) (.const (.string ⟨#[101, 42, 107]⟩))), none⟩])
                              (.seq (.ops [
                                ⟨(some 67), (.bin .eql (.tmp 5) (.const (.int .i64 37))), none⟩, 
                                ⟨(some 66), (.mv (.tmp 67)), none⟩])
                               (.cond (.tmp 66)
                                (.ops [
                                 ⟨(some 68), (.fieldAddr 4 (.tmp 2)), none⟩, 
                                 ⟨none, (.store1 (.tmp 68) (.const (.string ⟨#[102, 42, 115]⟩))), none⟩])
                                (.seq (.ops [
                                  ⟨(some 70), (.bin .eql (.tmp 5) (.const (.int .i64 38))), none⟩, 
                                  ⟨(some 69), (.mv (.tmp 70)), none⟩])
                                 (.cond (.tmp 69)
                                  (.ops [
                                   ⟨(some 71), (.fieldAddr 0 (.tmp 2)), none⟩, 
                                   ⟨none, (.store1 (.tmp 71) (.const (.string ⟨#[110]⟩))), none⟩, 
                                   ⟨(some 72), (.fieldAddr 4 (.tmp 2)), none⟩, 
                                   ⟨none, (.store1 (.tmp 72) (.const (.string ⟨#[115]⟩))), none⟩])
                                  (.seq (.ops [
                                    ⟨(some 74), (.bin .eql (.tmp 5) (.const (.int .i64 39))), none⟩, 
                                    ⟨(some 73), (.mv (.tmp 74)), none⟩])
                                   (.cond (.tmp 73)
                                    (.ops [
                                     ⟨(some 75), (.fieldAddr 0 (.tmp 2)), none⟩, 
                                     ⟨none, (.store1 (.tmp 75) (.const (.string ⟨#[110]⟩))), none⟩, 
                                     ⟨(some 76), (.fieldAddr 3 (.tmp 2)), none⟩, 
                                     ⟨none, (.store1 (.tmp 76) (.const (.bool true))), none⟩, 
                                     ⟨(some 77), (.fieldAddr 4 (.tmp 2)), none⟩, 
                                     ⟨none, (.store1 (.tmp 77) (.const (.string ⟨#[42, 120]⟩))), none⟩])
                                    (.seq (.ops [
                                      ⟨(some 79), (.bin .eql (.tmp 5) (.const (.int .i64 41))), none⟩, 
                                      ⟨(some 78), (.mv (.tmp 79)), none⟩])
                                     (.cond (.tmp 78)
                                      (.ops [
                                       ⟨(some 80), (.fieldAddr 4 (.tmp 2)), none⟩, 
                                       ⟨none, (.store1 (.tmp 80) (.const (.string ⟨#[42, 120]⟩))), none⟩])
                                      (.seq (.ops [
                                        ⟨(some 6), (.loadN 5 (.tmp 2)), none⟩, 
                                        ⟨none, (.storeN 5 (.tmp 2) (.tmp 6)), none⟩, 
                                        ⟨(some 3), (.mv (.const (.bool false))), none⟩])
                                       .ret)))))))))))))))))))))))))))))))))))))
  (.seq (.ops [
    ⟨(some 81), (.loadN 5 (.tmp 2)), none⟩, 
    ⟨none, (.storeN 5 (.tmp 2) (.tmp 81)), none⟩, 
    ⟨(some 3), (.mv (.const (.bool true))), none⟩])
   .ret)))
theorem c50 {args : Array Value} {h : Heap} {R : Ending → Heap → Prop} (ha : args.size ≤ 82) (hh : aexec Tryz.prog ac50 (abody [(.cellN 2 5), (.slot 3)] R) ⟨initFr args.toList, []⟩ h) : HCalls Tryz.prog 50 args h R :=
  hcalls_of Tryz.func50 rfl rfl (by kernel_rfl) (by kernel_rfl) ha hh
/-- 51: credenza/token.IsIdent -/
def ac51 : ACode :=
 (.seq (.ops [
  ⟨(some 2), (.mv (.const (.bool false))), none⟩])
 (.seq (.ops [
   ⟨(some 3), (.mv (.tmp 0)), none⟩, 
   ⟨(some 4), (.bin .neq (.tmp 3) (.const (.string ⟨#[]⟩))), none⟩, 
   ⟨(some 5), (.mv (.tmp 4)), none⟩, 
   ⟨(some 6), (.mv (.tmp 0)), (some (5, true))⟩, 
   ⟨(some 7), (.lenStr (.tmp 6)), (some (5, true))⟩, 
   ⟨(some 8), (.bin .leq (.tmp 7) (.const (.int .i64 32))), (some (5, true))⟩, 
   ⟨(some 9), (.pick (.tmp 5) (.tmp 8) (.const (.bool false))), none⟩, 
   ⟨(some 10), (.mv (.tmp 9)), none⟩, 
   ⟨(some 11), (.mv (.tmp 0)), (some (10, true))⟩, 
   ⟨(some 12), (.idxStr (.tmp 11) (.const (.int .i64 0))), (some (10, true))⟩, 
   ⟨(some 13), (.callF 69 [(.tmp 12)]), (some (10, true))⟩, 
   ⟨(some 14), (.pick (.tmp 10) (.tmp 13) (.const (.bool false))), none⟩, 
   ⟨(some 15), (.mv (.tmp 14)), none⟩, 
   ⟨(some 16), (.mv (.tmp 0)), (some (15, true))⟩, 
   ⟨(some 17), (.callF 70 [(.tmp 16)]), (some (15, true))⟩, 
   ⟨(some 18), (.mv (.tmp 0)), (some (15, true))⟩, 
   ⟨(some 19), (.lenStr (.tmp 18)), (some (15, true))⟩, 
   ⟨(some 20), (.bin .eql (.tmp 17) (.tmp 19)), (some (15, true))⟩, 
   ⟨(some 21), (.pick (.tmp 15) (.tmp 20) (.const (.bool false))), none⟩, 
   ⟨(some 2), (.mv (.tmp 21)), none⟩])
  .ret))
theorem c51 {args : Array Value} {h : Heap} {R : Ending → Heap → Prop} (ha : args.size ≤ 22) (hh : aexec Tryz.prog ac51 (abody [(.slot 2)] R) ⟨initFr args.toList, []⟩ h) : HCalls Tryz.prog 51 args h R :=
  hcalls_of Tryz.func51 rfl rfl (by kernel_rfl) (by kernel_rfl) ha hh
/-- 52: credenza/tree.among -/
def ac52 : ACode :=
 (.seq (.ops [
  ⟨(some 4), (.mv (.const (.bool false))), none⟩])
 (.seq (.ops [
   ⟨(some 5), (.mv (.tmp 1)), none⟩, 
   ⟨(some 6), (.bin .neq (.tmp 5) (.const (.string ⟨#[]⟩))), none⟩, 
   ⟨(some 7), (.mv (.tmp 6)), none⟩, 
   ⟨(some 8), (.mv (.tmp 1)), (some (7, true))⟩, 
   ⟨(some 9), (.callF 71 [(.tmp 8), (.const (.string ⟨#[32]⟩))]), (some (7, true))⟩, 
   ⟨(some 10), (.un .not (.tmp 9)), (some (7, true))⟩, 
   ⟨(some 11), (.pick (.tmp 7) (.tmp 10) (.const (.bool false))), none⟩, 
   ⟨(some 12), (.mv (.tmp 11)), none⟩, 
   ⟨(some 13), (.mv (.tmp 0)), (some (12, true))⟩, 
   ⟨(some 14), (.mv (.tmp 1)), (some (12, true))⟩, 
   ⟨(some 15), (.bin .add (.const (.string ⟨#[32]⟩)) (.tmp 14)), (some (12, true))⟩, 
   ⟨(some 16), (.bin .add (.tmp 15) (.const (.string ⟨#[32]⟩))), (some (12, true))⟩, 
   ⟨(some 17), (.callF 71 [(.tmp 13), (.tmp 16)]), (some (12, true))⟩, 
   ⟨(some 18), (.pick (.tmp 12) (.tmp 17) (.const (.bool false))), none⟩, 
   ⟨(some 4), (.mv (.tmp 18)), none⟩])
  .ret))
theorem c52 {args : Array Value} {h : Heap} {R : Ending → Heap → Prop} (ha : args.size ≤ 19) (hh : aexec Tryz.prog ac52 (abody [(.slot 4)] R) ⟨initFr args.toList, []⟩ h) : HCalls Tryz.prog 52 args h R :=
  hcalls_of Tryz.func52 rfl rfl (by kernel_rfl) (by kernel_rfl) ha hh
/-- 53: credenza/token.IsWord -/
def ac53 : ACode :=
 (.seq (.ops [
  ⟨(some 2), (.mv (.const (.bool false))), none⟩])
 (.seq (.ops [
   ⟨(some 3), (.mv (.tmp 0)), none⟩, 
   ⟨(some 4), (.callF 72 [(.const (.string ⟨#[32, 98, 114, 101, 97, 107, 32, 99, 97, 115, 101, 32, 99, 97, 116, 99, 104, 32, 99, 108, 97, 115, 115, 32, 99, 111, 110, 115, 116, 32, 99, 111, 110, 116, 105, 110, 117, 101, 32, 100, 101, 98, 117, 103, 103, 101, 114, 32, 100, 101, 102, 97, 117, 108, 116, 32, 100, 101, 108, 101, 116, 101, 32, 100, 111, 32, 101, 108, 115, 101, 32, 101, 110, 117, 109, 32, 101, 120, 112, 111, 114, 116, 32, 101, 120, 116, 101, 110, 100, 115, 32, 102, 97, 108, 115, 101, 32, 102, 105, 110, 97, 108, 108, 121, 32, 102, 111, 114, 32, 102, 117, 110, 99, 116, 105, 111, 110, 32, 105, 102, 32, 105, 109, 112, 108, 101, 109, 101, 110, 116, 115, 32, 105, 109, 112, 111, 114, 116, 32, 105, 110, 32, 105, 110, 115, 116, 97, 110, 99, 101, 111, 102, 32, 105, 110, 116, 101, 114, 102, 97, 99, 101, 32, 108, 101, 116, 32, 110, 101, 119, 32, 110, 117, 108, 108, 32, 112, 97, 99, 107, 97, 103, 101, 32, 112, 114, 105, 118, 97, 116, 101, 32, 112, 114, 111, 116, 101, 99, 116, 101, 100, 32, 112, 117, 98, 108, 105, 99, 32, 114, 101, 116, 117, 114, 110, 32, 115, 116, 97, 116, 105, 99, 32, 115, 117, 112, 101, 114, 32, 115, 119, 105, 116, 99, 104, 32, 116, 104, 105, 115, 32, 116, 104, 114, 111, 119, 32, 116, 114, 117, 101, 32, 116, 114, 121, 32, 116, 121, 112, 101, 111, 102, 32, 118, 97, 114, 32, 118, 111, 105, 100, 32, 119, 104, 105, 108, 101, 32, 119, 105, 116, 104, 32, 121, 105, 101, 108, 100, 32]⟩)), (.tmp 3)]), none⟩, 
   ⟨(some 2), (.mv (.tmp 4)), none⟩])
  .ret))
theorem c53 {args : Array Value} {h : Heap} {R : Ending → Heap → Prop} (ha : args.size ≤ 5) (hh : aexec Tryz.prog ac53 (abody [(.slot 2)] R) ⟨initFr args.toList, []⟩ h) : HCalls Tryz.prog 53 args h R :=
  hcalls_of Tryz.func53 rfl rfl (by kernel_rfl) (by kernel_rfl) ha hh
/-- 55: credenza/tree.IsTarget -/
def ac55 : ACode :=
 (.seq (.ops [
  ⟨(some 1), (.box 25 (.tmp 0)), none⟩, 
  ⟨(some 2), (.mv (.const (.bool false))), none⟩])
 (.seq (.ops [
   ⟨(some 3), (.fieldAddr 0 (.tmp 1)), none⟩, 
   ⟨(some 4), (.load1 (.tmp 3)), none⟩, 
   ⟨(some 5), (.bin .eql (.tmp 4) (.const (.int .i64 3))), none⟩, 
   ⟨(some 6), (.mv (.tmp 5)), none⟩, 
   ⟨(some 7), (.fieldAddr 0 (.tmp 1)), (some (6, false))⟩, 
   ⟨(some 8), (.load1 (.tmp 7)), (some (6, false))⟩, 
   ⟨(some 9), (.bin .eql (.tmp 8) (.const (.int .i64 11))), (some (6, false))⟩, 
   ⟨(some 10), (.pick (.tmp 6) (.const (.bool true)) (.tmp 9)), none⟩, 
   ⟨(some 11), (.mv (.tmp 10)), none⟩, 
   ⟨(some 12), (.fieldAddr 0 (.tmp 1)), (some (11, false))⟩, 
   ⟨(some 13), (.load1 (.tmp 12)), (some (11, false))⟩, 
   ⟨(some 14), (.bin .eql (.tmp 13) (.const (.int .i64 12))), (some (11, false))⟩, 
   ⟨(some 15), (.pick (.tmp 11) (.const (.bool true)) (.tmp 14)), none⟩, 
   ⟨(some 2), (.mv (.tmp 15)), none⟩])
  .ret))
theorem c55 {args : Array Value} {h : Heap} {R : Ending → Heap → Prop} (ha : args.size ≤ 16) (hh : aexec Tryz.prog ac55 (abody [(.slot 2)] R) ⟨initFr args.toList, []⟩ h) : HCalls Tryz.prog 55 args h R :=
  hcalls_of Tryz.func55 rfl rfl (by kernel_rfl) (by kernel_rfl) ha hh
/-- 56: slices.Collect[string] -/
def ac56 : ACode :=
 (.seq (.ops [
  ⟨(some 2), (.mv (.const (.slice none 0 0))), none⟩])
 (.seq (.ops [
   ⟨(some 3), (.mv (.tmp 0)), none⟩, 
   ⟨(some 4), (.callF 74 [(.const (.slice none 0 0)), (.tmp 3)]), none⟩, 
   ⟨(some 2), (.mv (.tmp 4)), none⟩])
  .ret))
theorem c56 {args : Array Value} {h : Heap} {R : Ending → Heap → Prop} (ha : args.size ≤ 5) (hh : aexec Tryz.prog ac56 (abody [(.slot 2)] R) ⟨initFr args.toList, []⟩ h) : HCalls Tryz.prog 56 args h R :=
  hcalls_of Tryz.func56 rfl rfl (by kernel_rfl) (by kernel_rfl) ha hh
/-- 58: slices.Values[[]string,string]$1 -/
def ac58 : ACode :=
 (.seq (.ops [
  ⟨(some 5), (.load1 (.tmp 1)), none⟩, 
  ⟨(some 6), (.lenSl (.tmp 5)), none⟩, 
  ⟨(some 7), (.mv (.const (.int .i64 0))), none⟩])
 (.block 0
  (.loop
   (.seq (.ops [
     ⟨(some 8), (.bin .lss (.tmp 7) (.tmp 6)), none⟩])
    (.seq (.cond (.tmp 8)
      .skip
      (.exit 0))
     (.seq (.block 1
       (.seq (.ops [
         ⟨(some 9), (.idxSl 1 (.tmp 5) (.tmp 7)), none⟩, 
         ⟨(some 10), (.load1 (.tmp 9)), none⟩, 
         ⟨(some 4), (.mv (.tmp 10)), none⟩])
        (.seq (.ops [
          ⟨(some 11), (.mv (.tmp 0)), none⟩, 
          ⟨(some 12), (.mv (.tmp 4)), none⟩, 
          ⟨(some 13), (.callV (.tmp 11) [(.tmp 12)]), none⟩, 
          ⟨(some 14), (.un .not (.tmp 13)), none⟩])
         (.cond (.tmp 14)
          .ret
          .skip))))
      (.ops [
       ⟨(some 15), (.bin .add (.tmp 7) (.const (.int .i64 1))), none⟩, 
       ⟨(some 7), (.mv (.tmp 15)), none⟩])))))))
theorem c58 {args : Array Value} {h : Heap} {R : Ending → Heap → Prop} (ha : args.size ≤ 16) (hh : aexec Tryz.prog ac58 (abody [] R) ⟨initFr args.toList, []⟩ h) : HCalls Tryz.prog 58 args h R :=
  hcalls_of Tryz.func58 rfl rfl (by kernel_rfl) (by kernel_rfl) ha hh
/-- 59: credenza/credenzaref06.IsIdent -/
def ac59 : ACode :=
 (.seq (.ops [
  ⟨(some 2), (.mv (.const (.bool false))), none⟩])
 (.seq (.seq (.ops [
    ⟨(some 4), (.mv (.tmp 0)), none⟩, 
    ⟨(some 5), (.lenStr (.tmp 4)), none⟩, 
    ⟨(some 6), (.bin .lss (.tmp 5) (.const (.int .i64 1))), none⟩, 
    ⟨(some 7), (.mv (.tmp 6)), none⟩, 
    ⟨(some 8), (.mv (.tmp 0)), (some (7, false))⟩, 
    ⟨(some 9), (.lenStr (.tmp 8)), (some (7, false))⟩, 
    ⟨(some 10), (.bin .gtr (.tmp 9) (.const (.int .i64 32))), (some (7, false))⟩, 
    ⟨(some 11), (.pick (.tmp 7) (.const (.bool true)) (.tmp 10)), none⟩, 
    ⟨(some 12), (.mv (.tmp 11)), none⟩, 
    ⟨(some 13), (.mv (.tmp 0)), (some (12, false))⟩, 
    ⟨(some 14), (.idxStr (.tmp 13) (.const (.int .i64 0))), (some (12, false))⟩, 
    ⟨(some 15), (.callF 77 [(.tmp 14)]), (some (12, false))⟩, 
    ⟨(some 16), (.pick (.tmp 12) (.const (.bool true)) (.tmp 15)), none⟩])
   (.cond (.tmp 16)
    (.seq (.ops [
      ⟨(some 2), (.mv (.const (.bool false))), none⟩])
     .ret)
    .skip))
  (.seq (.seq (.ops [
     ⟨(some 3), (.mv (.const (.int .i64 0))), none⟩])
    (.block 0
     (.loop
      (.seq (.seq (.ops [
         ⟨(some 17), (.mv (.tmp 3)), none⟩, 
         ⟨(some 18), (.mv (.tmp 0)), none⟩, 
         ⟨(some 19), (.lenStr (.tmp 18)), none⟩, 
         ⟨(some 20), (.bin .lss (.tmp 17) (.tmp 19)), none⟩])
        (.cond (.tmp 20)
         .skip
         (.exit 0)))
       (.seq (.block 1
         (.seq (.ops [
           ⟨(some 23), (.mv (.tmp 0)), none⟩, 
           ⟨(some 24), (.mv (.tmp 3)), none⟩, 
           ⟨(some 25), (.idxStr (.tmp 23) (.tmp 24)), none⟩, 
           ⟨(some 26), (.callF 78 [(.tmp 25)]), none⟩, 
           ⟨(some 27), (.un .not (.tmp 26)), none⟩, 
           ⟨(some 28), (.mv (.tmp 27)), none⟩, 
           ⟨(some 29), (.mv (.tmp 0)), (some (28, true))⟩, 
           ⟨(some 30), (.mv (.tmp 3)), (some (28, true))⟩, 
           ⟨(some 31), (.idxStr (.tmp 29) (.tmp 30)), (some (28, true))⟩, 
           ⟨(some 32), (.callF 77 [(.tmp 31)]), (some (28, true))⟩, 
           ⟨(some 33), (.un .not (.tmp 32)), (some (28, true))⟩, 
           ⟨(some 34), (.pick (.tmp 28) (.tmp 33) (.const (.bool false))), none⟩])
          (.cond (.tmp 34)
           (.seq (.ops [
             ⟨(some 2), (.mv (.const (.bool false))), none⟩])
            .ret)
           .skip)))
        (.ops [
         ⟨(some 21), (.mv (.tmp 3)), none⟩, 
         ⟨(some 22), (.bin .add (.tmp 21) (.const (.int .i64 1))), none⟩, 
         ⟨(some 3), (.mv (.tmp 22)), none⟩]))))))
   (.seq (.ops [
     ⟨(some 2), (.mv (.const (.bool true))), none⟩])
    .ret))))
theorem c59 {args : Array Value} {h : Heap} {R : Ending → Heap → Prop} (ha : args.size ≤ 35) (hh : aexec Tryz.prog ac59 (abody [(.slot 2)] R) ⟨initFr args.toList, []⟩ h) : HCalls Tryz.prog 59 args h R :=
  hcalls_of Tryz.func59 rfl rfl (by kernel_rfl) (by kernel_rfl) ha hh
/-- 60: credenza/credenzaref07.operator -/
def ac60 : ACode :=
 (.seq (.ops [
  ⟨(some 4), (.mv (.const (.bool false))), none⟩])
 (.seq (.seq (.ops [
    ⟨(some 5), (.mv (.tmp 0)), none⟩])
   (.block 0
    (.seq (.ops [
      ⟨(some 7), (.bin .eql (.tmp 5) (.const (.int .i64 15))), none⟩, 
      ⟨(some 6), (.mv (.tmp 7)), none⟩])
     (.cond (.tmp 6)
      (.seq (.ops [
        ⟨(some 8), (.buildSlice 9 6 [(.string ⟨#[]⟩), (.string ⟨#[]⟩), (.string ⟨#[]⟩), (.string ⟨#[]⟩), (.string ⟨#[]⟩), (.string ⟨#[]⟩)] [(0, 1, (.const (.string ⟨#[45]⟩))), (1, 1, (.const (.string ⟨#[43]⟩))), (2, 1, (.const (.string ⟨#[33]⟩))), (3, 1, (.const (.string ⟨#[116, 121, 112, 101, 111, 102]⟩))), (4, 1, (.const (.string ⟨#[100, 101, 108, 101, 116, 101]⟩))), (5, 1, (.const (.string ⟨#[118, 111, 105, 100]⟩)))]), none⟩, 
        ⟨(some 9), (.mv (.tmp 1)), none⟩, 
        ⟨(some 10), (.callF 79 [(.tmp 8), (.tmp 9)]), none⟩, 
        ⟨(some 4), (.mv (.tmp 10)), none⟩])
       .ret)
      (.seq (.ops [
        ⟨(some 12), (.bin .eql (.tmp 5) (.const (.int .i64 16))), none⟩, 
        ⟨(some 11), (.mv (.tmp 12)), none⟩])
       (.cond (.tmp 11)
        (.seq (.ops [
          ⟨(some 13), (.mv (.tmp 1)), none⟩, 
          ⟨(some 14), (.bin .eql (.tmp 13) (.const (.string ⟨#[43, 43]⟩))), none⟩, 
          ⟨(some 15), (.mv (.tmp 14)), none⟩, 
          ⟨(some 16), (.mv (.tmp 1)), (some (15, false))⟩, 
          ⟨(some 17), (.bin .eql (.tmp 16) (.const (.string ⟨#[45, 45]⟩))), (some (15, false))⟩, 
          ⟨(some 18), (.pick (.tmp 15) (.const (.bool true)) (.tmp 17)), none⟩, 
          ⟨(some 4), (.mv (.tmp 18)), none⟩])
         .ret)
        (.seq (.ops [
          ⟨(some 20), (.bin .eql (.tmp 5) (.const (.int .i64 17))), none⟩, 
          ⟨(some 19), (.mv (.tmp 20)), none⟩])
         (.cond (.tmp 19)
          (.seq (.ops [
            ⟨(some 21), (.buildSlice 9 15 [(.string ⟨#[]⟩), (.string ⟨#[]⟩), (.string ⟨#[]⟩), (.string ⟨#[]⟩), (.string ⟨#[]⟩), (.string ⟨#[]⟩), (.string ⟨#[]⟩), (.string ⟨#[]⟩), (.string ⟨#[]⟩), (.string ⟨#[]⟩), (.string ⟨#[]⟩), (.string ⟨#[]⟩), (.string ⟨#[]⟩), (.string ⟨#[]⟩), (.string ⟨#[]⟩)] [(0, 1, (.const (.string ⟨#[43]⟩))), (1, 1, (.const (.string ⟨#[45]⟩))), (2, 1, (.const (.string ⟨#[42]⟩))), (3, 1, (.const (.string ⟨#[47]⟩))), (4, 1, (.const (.string ⟨#[37]⟩))), (5, 1, (.const (.string ⟨#[60]⟩))), (6, 1, (.const (.string ⟨#[62]⟩))), (7, 1, (.const (.string ⟨#[60, 61]⟩))), (8, 1, (.const (.string ⟨#[62, 61]⟩))), (9, 1, (.const (.string ⟨#[61, 61]⟩))), (10, 1, (.const (.string ⟨#[33, 61]⟩))), (11, 1, (.const (.string ⟨#[61, 61, 61]⟩))), (12, 1, (.const (.string ⟨#[33, 61, 61]⟩))), (13, 1, (.const (.string ⟨#[105, 110]⟩))), (14, 1, (.const (.string ⟨#[105, 110, 115, 116, 97, 110, 99, 101, 111, 102]⟩)))]), none⟩, 
            ⟨(some 22), (.mv (.tmp 1)), none⟩, 
            ⟨(some 23), (.callF 79 [(.tmp 21), (.tmp 22)]), none⟩, 
            ⟨(some 4), (.mv (.tmp 23)), none⟩])
           .ret)
          (.seq (.ops [
            ⟨(some 25), (.bin .eql (.tmp 5) (.const (.int .i64 18))), none⟩, 
            ⟨(some 24), (.mv (.tmp 25)), none⟩])
           (.cond (.tmp 24)
            (.seq (.ops [
              ⟨(some 26), (.mv (.tmp 1)), none⟩, 
              ⟨(some 27), (.bin .eql (.tmp 26) (.const (.string ⟨#[38, 38]⟩))), none⟩, 
              ⟨(some 28), (.mv (.tmp 27)), none⟩, 
              ⟨(some 29), (.mv (.tmp 1)), (some (28, false))⟩, 
              ⟨(some 30), (.bin .eql (.tmp 29) (.const (.string ⟨#[124, 124]⟩))), (some (28, false))⟩, 
              ⟨(some 31), (.pick (.tmp 28) (.const (.bool true)) (.tmp 30)), none⟩, 
              ⟨(some 4), (.mv (.tmp 31)), none⟩])
             .ret)
            (.seq (.ops [
              ⟨(some 33), (.bin .eql (.tmp 5) (.const (.int .i64 20))), none⟩, 
              ⟨(some 32), (.mv (.tmp 33)), none⟩])
             (.cond (.tmp 32)
              (.seq (.ops [
                ⟨(some 34), (.buildSlice 9 6 [(.string ⟨#[]⟩), (.string ⟨#[]⟩), (.string ⟨#[]⟩), (.string ⟨#[]⟩), (.string ⟨#[]⟩), (.string ⟨#[]⟩)] [(0, 1, (.const (.string ⟨#[61]⟩))), (1, 1, (.const (.string ⟨#[43, 61]⟩))), (2, 1, (.const (.string ⟨#[45, 61]⟩))), (3, 1, (.const (.string ⟨#[42, 61]⟩))), (4, 1, (.const (.string ⟨#[47, 61]⟩))), (5, 1, (.const (.string ⟨#[37, 61]⟩)))]), none⟩, 
                ⟨(some 35), (.mv (.tmp 1)), none⟩, 
                ⟨(some 36), (.callF 79 [(.tmp 34), (.tmp 35)]), none⟩, 
                ⟨(some 4), (.mv (.tmp 36)), none⟩])
               .ret)
              .skip))))))))))))
  (.seq (.ops [
    ⟨(some 4), (.mv (.const (.bool false))), none⟩])
   .ret)))
theorem c60 {args : Array Value} {h : Heap} {R : Ending → Heap → Prop} (ha : args.size ≤ 37) (hh : aexec Tryz.prog ac60 (abody [(.slot 4)] R) ⟨initFr args.toList, []⟩ h) : HCalls Tryz.prog 60 args h R :=
  hcalls_of Tryz.func60 rfl rfl (by kernel_rfl) (by kernel_rfl) ha hh
/-- 61: credenza/credenzaref06.IsWord -/
def ac61 : ACode :=
 (.seq (.ops [
  ⟨(some 2), (.mv (.const (.bool false))), none⟩])
 (.seq (.seq (.ops [
    ⟨(some 5), (.callF 80 []), none⟩, 
    ⟨(some 6), (.lenSl (.tmp 5)), none⟩, 
    ⟨(some 7), (.mv (.const (.int .i64 0))), none⟩])
   (.block 0
    (.loop
     (.seq (.ops [
       ⟨(some 8), (.bin .lss (.tmp 7) (.tmp 6)), none⟩])
      (.seq (.cond (.tmp 8)
        .skip
        (.exit 0))
       (.seq (.block 1
         (.seq (.ops [
           ⟨(some 9), (.idxSl 1 (.tmp 5) (.tmp 7)), none⟩, 
           ⟨(some 10), (.load1 (.tmp 9)), none⟩, 
           ⟨(some 4), (.mv (.tmp 10)), none⟩])
          (.seq (.ops [
            ⟨(some 11), (.mv (.tmp 0)), none⟩, 
            ⟨(some 12), (.mv (.tmp 4)), none⟩, 
            ⟨(some 13), (.bin .eql (.tmp 11) (.tmp 12)), none⟩])
           (.cond (.tmp 13)
            (.seq (.ops [
              ⟨(some 2), (.mv (.const (.bool true))), none⟩])
             .ret)
            .skip))))
        (.ops [
         ⟨(some 14), (.bin .add (.tmp 7) (.const (.int .i64 1))), none⟩, 
         ⟨(some 7), (.mv (.tmp 14)), none⟩])))))))
  (.seq (.ops [
    ⟨(some 2), (.mv (.const (.bool false))), none⟩])
   .ret)))
theorem c61 {args : Array Value} {h : Heap} {R : Ending → Heap → Prop} (ha : args.size ≤ 15) (hh : aexec Tryz.prog ac61 (abody [(.slot 2)] R) ⟨initFr args.toList, []⟩ h) : HCalls Tryz.prog 61 args h R :=
  hcalls_of Tryz.func61 rfl rfl (by kernel_rfl) (by kernel_rfl) ha hh
/-- 62: credenza/credenzaref07.decls -/
def ac62 : ACode :=
 (.seq (.ops [
  ⟨(some 1), (.box 25 (.tmp 0)), none⟩, 
  ⟨(some 2), (.mv (.const (.bool false))), none⟩])
 (.seq (.seq (.ops [
    ⟨(some 5), (.fieldAddr 0 (.tmp 1)), none⟩, 
    ⟨(some 6), (.load1 (.tmp 5)), none⟩, 
    ⟨(some 7), (.bin .neq (.tmp 6) (.const (.int .i64 22))), none⟩, 
    ⟨(some 8), (.mv (.tmp 7)), none⟩, 
    ⟨(some 9), (.loadN 6 (.tmp 1)), (some (8, false))⟩, 
    ⟨(some 10), (.callF 23 [(.tmp 9)]), (some (8, false))⟩, 
    ⟨(some 11), (.un .not (.tmp 10)), (some (8, false))⟩, 
    ⟨(some 12), (.pick (.tmp 8) (.const (.bool true)) (.tmp 11)), none⟩, 
    ⟨(some 13), (.mv (.tmp 12)), none⟩, 
    ⟨(some 14), (.fieldAddr 5 (.tmp 1)), (some (13, false))⟩, 
    ⟨(some 15), (.load1 (.tmp 14)), (some (13, false))⟩, 
    ⟨(some 16), (.lenSl (.tmp 15)), (some (13, false))⟩, 
    ⟨(some 17), (.bin .eql (.tmp 16) (.const (.int .i64 0))), (some (13, false))⟩, 
    ⟨(some 18), (.pick (.tmp 13) (.const (.bool true)) (.tmp 17)), none⟩])
   (.cond (.tmp 18)
    (.seq (.ops [
      ⟨(some 2), (.mv (.const (.bool false))), none⟩])
     .ret)
    .skip))
  (.seq (.seq (.ops [
     ⟨(some 19), (.fieldAddr 5 (.tmp 1)), none⟩, 
     ⟨(some 20), (.load1 (.tmp 19)), none⟩, 
     ⟨(some 21), (.lenSl (.tmp 20)), none⟩, 
     ⟨(some 22), (.mv (.const (.int .i64 0))), none⟩])
    (.block 0
     (.loop
      (.seq (.ops [
        ⟨(some 23), (.bin .lss (.tmp 22) (.tmp 21)), none⟩])
       (.seq (.cond (.tmp 23)
         .skip
         (.exit 0))
        (.seq (.block 1
          (.seq (.ops [
            ⟨(some 24), (.idxSl 6 (.tmp 20) (.tmp 22)), none⟩, 
            ⟨(some 25), (.loadN 6 (.tmp 24)), none⟩, 
            ⟨(some 4), (.new 25 [(.int .i64 0), (.string ⟨#[]⟩), (.int .i64 0), (.string ⟨#[]⟩), (.slice none 0 0), (.slice none 0 0)]), none⟩, 
            ⟨none, (.storeN 6 (.tmp 4) (.tmp 25)), none⟩])
           (.seq (.ops [
             ⟨(some 26), (.fieldAddr 0 (.tmp 4)), none⟩, 
             ⟨(some 27), (.load1 (.tmp 26)), none⟩, 
             ⟨(some 28), (.bin .neq (.tmp 27) (.const (.int .i64 23))), none⟩, 
             ⟨(some 29), (.mv (.tmp 28)), none⟩, 
             ⟨(some 30), (.loadN 6 (.tmp 4)), (some (29, false))⟩, 
             ⟨(some 31), (.callF 23 [(.tmp 30)]), (some (29, false))⟩, 
             ⟨(some 32), (.un .not (.tmp 31)), (some (29, false))⟩, 
             ⟨(some 33), (.pick (.tmp 29) (.const (.bool true)) (.tmp 32)), none⟩, 
             ⟨(some 34), (.mv (.tmp 33)), none⟩, 
             ⟨(some 35), (.fieldAddr 5 (.tmp 4)), (some (34, false))⟩, 
             ⟨(some 36), (.load1 (.tmp 35)), (some (34, false))⟩, 
             ⟨(some 37), (.lenSl (.tmp 36)), (some (34, false))⟩, 
             ⟨(some 38), (.bin .gtr (.tmp 37) (.const (.int .i64 1))), (some (34, false))⟩, 
             ⟨(some 39), (.pick (.tmp 34) (.const (.bool true)) (.tmp 38)), none⟩, 
             ⟨(some 40), (.mv (.tmp 39)), none⟩, 
             ⟨(some 41), (.fieldAddr 5 (.tmp 4)), (some (40, false))⟩, 
             ⟨(some 42), (.load1 (.tmp 41)), (some (40, false))⟩, 
             ⟨(some 43), (.callF 66 [(.tmp 42)]), (some (40, false))⟩, 
             ⟨(some 44), (.un .not (.tmp 43)), (some (40, false))⟩, 
             ⟨(some 45), (.pick (.tmp 40) (.const (.bool true)) (.tmp 44)), none⟩])
            (.cond (.tmp 45)
             (.seq (.ops [
               ⟨(some 2), (.mv (.const (.bool false))), none⟩])
              .ret)
             .skip))))
         (.ops [
          ⟨(some 46), (.bin .add (.tmp 22) (.const (.int .i64 1))), none⟩, 
          ⟨(some 22), (.mv (.tmp 46)), none⟩])))))))
   (.seq (.ops [
     ⟨(some 2), (.mv (.const (.bool true))), none⟩])
    .ret))))
theorem c62 {args : Array Value} {h : Heap} {R : Ending → Heap → Prop} (ha : args.size ≤ 47) (hh : aexec Tryz.prog ac62 (abody [(.slot 2)] R) ⟨initFr args.toList, []⟩ h) : HCalls Tryz.prog 62 args h R :=
  hcalls_of Tryz.func62 rfl rfl (by kernel_rfl) (by kernel_rfl) ha hh
/-- 63: credenza/credenzaref07.expr -/
def ac63 : ACode :=
 (.seq (.ops [
  ⟨(some 1), (.box 25 (.tmp 0)), none⟩, 
  ⟨(some 2), (.mv (.const (.bool false))), none⟩])
 (.seq (.seq (.ops [
    ⟨(some 6), (.loadN 6 (.tmp 1)), none⟩, 
    ⟨(some 7), (.callF 23 [(.tmp 6)]), none⟩, 
    ⟨(some 8), (.un .not (.tmp 7)), none⟩])
   (.cond (.tmp 8)
    (.seq (.ops [
      ⟨(some 2), (.mv (.const (.bool false))), none⟩])
     .ret)
    .skip))
  (.seq (.ops [
    ⟨(some 9), (.fieldAddr 5 (.tmp 1)), none⟩, 
    ⟨(some 10), (.load1 (.tmp 9)), none⟩, 
    ⟨(some 11), (.lenSl (.tmp 10)), none⟩, 
    ⟨(some 3), (.mv (.tmp 11)), none⟩])
   (.seq (.seq (.ops [
      ⟨(some 12), (.fieldAddr 0 (.tmp 1)), none⟩, 
      ⟨(some 13), (.load1 (.tmp 12)), none⟩])
     (.block 0
      (.seq (.seq (.ops [
         ⟨(some 15), (.bin .eql (.tmp 13) (.const (.int .i64 1))), none⟩, 
         ⟨(some 14), (.mv (.tmp 15)), none⟩])
        (.cond (.tmp 14)
         .skip
         (.seq (.ops [
           ⟨(some 16), (.bin .eql (.tmp 13) (.const (.int .i64 2))), none⟩, 
           ⟨(some 14), (.mv (.tmp 16)), none⟩])
          (.cond (.tmp 14)
           .skip
           (.seq (.ops [
             ⟨(some 17), (.bin .eql (.tmp 13) (.const (.int .i64 3))), none⟩, 
             ⟨(some 14), (.mv (.tmp 17)), none⟩])
            (.cond (.tmp 14)
             .skip
             (.seq (.ops [
               ⟨(some 18), (.bin .eql (.tmp 13) (.const (.int .i64 4))), none⟩, 
               ⟨(some 14), (.mv (.tmp 18)), none⟩])
              (.cond (.tmp 14)
               .skip
               (.seq (.ops [
                 ⟨(some 19), (.bin .eql (.tmp 13) (.const (.int .i64 5))), none⟩, 
                 ⟨(some 14), (.mv (.tmp 19)), none⟩])
                (.cond (.tmp 14)
                 .skip
                 (.ops [
                  ⟨(some 20), (.bin .eql (.tmp 13) (.const (.int .i64 6))), none⟩, 
                  ⟨(some 14), (.mv (.tmp 20)), none⟩])))))))))))
       (.cond (.tmp 14)
        (.seq (.ops [
          ⟨(some 21), (.mv (.tmp 3)), none⟩, 
          ⟨(some 22), (.bin .eql (.tmp 21) (.const (.int .i64 0))), none⟩, 
          ⟨(some 2), (.mv (.tmp 22)), none⟩])
         .ret)
        (.seq (.ops [
          ⟨(some 24), (.bin .eql (.tmp 13) (.const (.int .i64 7))), none⟩, 
          ⟨(some 23), (.mv (.tmp 24)), none⟩])
         (.cond (.tmp 23)
          (.seq (.ops [
            ⟨(some 25), (.fieldAddr 5 (.tmp 1)), none⟩, 
            ⟨(some 26), (.load1 (.tmp 25)), none⟩, 
            ⟨(some 27), (.callF 66 [(.tmp 26)]), none⟩, 
            ⟨(some 2), (.mv (.tmp 27)), none⟩])
           .ret)
          (.seq (.ops [
            ⟨(some 29), (.bin .eql (.tmp 13) (.const (.int .i64 8))), none⟩, 
            ⟨(some 28), (.mv (.tmp 29)), none⟩])
           (.cond (.tmp 28)
            (.seq (.seq (.ops [
               ⟨(some 30), (.fieldAddr 5 (.tmp 1)), none⟩, 
               ⟨(some 31), (.load1 (.tmp 30)), none⟩, 
               ⟨(some 32), (.lenSl (.tmp 31)), none⟩, 
               ⟨(some 33), (.mv (.const (.int .i64 0))), none⟩])
              (.block 1
               (.loop
                (.seq (.ops [
                  ⟨(some 34), (.bin .lss (.tmp 33) (.tmp 32)), none⟩])
                 (.seq (.cond (.tmp 34)
                   .skip
                   (.exit 1))
                  (.seq (.block 2
                    (.seq (.ops [
                      ⟨(some 35), (.idxSl 6 (.tmp 31) (.tmp 33)), none⟩, 
                      ⟨(some 36), (.loadN 6 (.tmp 35)), none⟩, 
                      ⟨(some 5), (.new 25 [(.int .i64 0), (.string ⟨#[]⟩), (.int .i64 0), (.string ⟨#[]⟩), (.slice none 0 0), (.slice none 0 0)]), none⟩, 
                      ⟨none, (.storeN 6 (.tmp 5) (.tmp 36)), none⟩])
                     (.seq (.ops [
                       ⟨(some 37), (.fieldAddr 0 (.tmp 5)), none⟩, 
                       ⟨(some 38), (.load1 (.tmp 37)), none⟩, 
                       ⟨(some 39), (.bin .neq (.tmp 38) (.const (.int .i64 9))), none⟩, 
                       ⟨(some 40), (.mv (.tmp 39)), none⟩, 
                       ⟨(some 41), (.loadN 6 (.tmp 5)), (some (40, false))⟩, 
                       ⟨(some 42), (.callF 23 [(.tmp 41)]), (some (40, false))⟩, 
                       ⟨(some 43), (.un .not (.tmp 42)), (some (40, false))⟩, 
                       ⟨(some 44), (.pick (.tmp 40) (.const (.bool true)) (.tmp 43)), none⟩, 
                       ⟨(some 45), (.mv (.tmp 44)), none⟩, 
                       ⟨(some 46), (.fieldAddr 5 (.tmp 5)), (some (45, false))⟩, 
                       ⟨(some 47), (.load1 (.tmp 46)), (some (45, false))⟩, 
                       ⟨(some 48), (.lenSl (.tmp 47)), (some (45, false))⟩, 
                       ⟨(some 49), (.bin .neq (.tmp 48) (.const (.int .i64 1))), (some (45, false))⟩, 
                       ⟨(some 50), (.pick (.tmp 45) (.const (.bool true)) (.tmp 49)), none⟩, 
                       ⟨(some 51), (.mv (.tmp 50)), none⟩, 
                       ⟨(some 52), (.fieldAddr 5 (.tmp 5)), (some (51, false))⟩, 
                       ⟨(some 53), (.load1 (.tmp 52)), (some (51, false))⟩, 
                       ⟨(some 54), (.idxSl 6 (.tmp 53) (.const (.int .i64 0))), (some (51, false))⟩, 
                       ⟨(some 55), (.loadN 6 (.tmp 54)), (some (51, false))⟩, 
                       ⟨(some 56), (.callF 63 [(.tmp 55)]), (some (51, false))⟩, 
                       ⟨(some 57), (.un .not (.tmp 56)), (some (51, false))⟩, 
                       ⟨(some 58), (.pick (.tmp 51) (.const (.bool true)) (.tmp 57)), none⟩])
                      (.cond (.tmp 58)
                       (.seq (.ops [
                         ⟨(some 2), (.mv (.const (.bool false))), none⟩])
                        .ret)
                       .skip))))
                   (.ops [
                    ⟨(some 59), (.bin .add (.tmp 33) (.const (.int .i64 1))), none⟩, 
                    ⟨(some 33), (.mv (.tmp 59)), none⟩])))))))
             (.seq (.ops [
               ⟨(some 2), (.mv (.const (.bool true))), none⟩])
              .ret))
            (.seq (.ops [
              ⟨(some 61), (.bin .eql (.tmp 13) (.const (.int .i64 10))), none⟩, 
              ⟨(some 60), (.mv (.tmp 61)), none⟩])
             (.cond (.tmp 60)
              (.seq (.ops [
                ⟨(some 62), (.fieldAddr 5 (.tmp 1)), none⟩, 
                ⟨(some 63), (.load1 (.tmp 62)), none⟩, 
                ⟨(some 64), (.callF 24 [(.tmp 63), (.const (.bool true))]), none⟩, 
                ⟨(some 2), (.mv (.tmp 64)), none⟩])
               .ret)
              (.seq (.seq (.ops [
                 ⟨(some 66), (.bin .eql (.tmp 13) (.const (.int .i64 13))), none⟩, 
                 ⟨(some 65), (.mv (.tmp 66)), none⟩])
                (.cond (.tmp 65)
                 .skip
                 (.ops [
                  ⟨(some 67), (.bin .eql (.tmp 13) (.const (.int .i64 14))), none⟩, 
                  ⟨(some 65), (.mv (.tmp 67)), none⟩])))
               (.cond (.tmp 65)
                (.seq (.ops [
                  ⟨(some 68), (.mv (.tmp 3)), none⟩, 
                  ⟨(some 69), (.bin .geq (.tmp 68) (.const (.int .i64 1))), none⟩, 
                  ⟨(some 70), (.mv (.tmp 69)), none⟩, 
                  ⟨(some 71), (.fieldAddr 5 (.tmp 1)), (some (70, true))⟩, 
                  ⟨(some 72), (.load1 (.tmp 71)), (some (70, true))⟩, 
                  ⟨(some 73), (.callF 66 [(.tmp 72)]), (some (70, true))⟩, 
                  ⟨(some 74), (.pick (.tmp 70) (.tmp 73) (.const (.bool false))), none⟩, 
                  ⟨(some 2), (.mv (.tmp 74)), none⟩])
                 .ret)
                (.seq (.seq (.ops [
                   ⟨(some 76), (.bin .eql (.tmp 13) (.const (.int .i64 11))), none⟩, 
                   ⟨(some 75), (.mv (.tmp 76)), none⟩])
                  (.cond (.tmp 75)
                   .skip
                   (.ops [
                    ⟨(some 77), (.bin .eql (.tmp 13) (.const (.int .i64 15))), none⟩, 
                    ⟨(some 75), (.mv (.tmp 77)), none⟩])))
                 (.cond (.tmp 75)
                  (.seq (.ops [
                    ⟨(some 78), (.mv (.tmp 3)), none⟩, 
                    ⟨(some 79), (.bin .eql (.tmp 78) (.const (.int .i64 1))), none⟩, 
                    ⟨(some 80), (.mv (.tmp 79)), none⟩, 
                    ⟨(some 81), (.fieldAddr 5 (.tmp 1)), (some (80, true))⟩, 
                    ⟨(some 82), (.load1 (.tmp 81)), (some (80, true))⟩, 
                    ⟨(some 83), (.callF 66 [(.tmp 82)]), (some (80, true))⟩, 
                    ⟨(some 84), (.pick (.tmp 80) (.tmp 83) (.const (.bool false))), none⟩, 
                    ⟨(some 2), (.mv (.tmp 84)), none⟩])
                   .ret)
                  (.seq (.ops [
                    ⟨(some 86), (.bin .eql (.tmp 13) (.const (.int .i64 16))), none⟩, 
                    ⟨(some 85), (.mv (.tmp 86)), none⟩])
                   (.cond (.tmp 85)
                    (.seq (.ops [
                      ⟨(some 87), (.mv (.tmp 3)), none⟩, 
                      ⟨(some 88), (.bin .eql (.tmp 87) (.const (.int .i64 1))), none⟩, 
                      ⟨(some 89), (.mv (.tmp 88)), none⟩, 
                      ⟨(some 90), (.fieldAddr 5 (.tmp 1)), (some (89, true))⟩, 
                      ⟨(some 91), (.load1 (.tmp 90)), (some (89, true))⟩, 
                      ⟨(some 92), (.idxSl 6 (.tmp 91) (.const (.int .i64 0))), (some (89, true))⟩, 
                      ⟨(some 93), (.loadN 6 (.tmp 92)), (some (89, true))⟩, 
                      ⟨(some 94), (.callF 81 [(.tmp 93)]), (some (89, true))⟩, 
                      ⟨(some 95), (.pick (.tmp 89) (.tmp 94) (.const (.bool false))), none⟩, 
                      ⟨(some 96), (.mv (.tmp 95)), none⟩, 
                      ⟨(some 97), (.fieldAddr 5 (.tmp 1)), (some (96, true))⟩, 
                      ⟨(some 98), (.load1 (.tmp 97)), (some (96, true))⟩, 
                      ⟨(some 99), (.callF 66 [(.tmp 98)]), (some (96, true))⟩, 
                      ⟨(some 100), (.pick (.tmp 96) (.tmp 99) (.const (.bool false))), none⟩, 
                      ⟨(some 2), (.mv (.tmp 100)), none⟩])
                     .ret)
                    (.seq (.ops [
                      ⟨(some 102), (.bin .eql (.tmp 13) (.const (.int .i64 20))), none⟩, 
                      ⟨(some 101), (.mv (.tmp 102)), none⟩])
                     (.cond (.tmp 101)
                      (.seq (.ops [
                        ⟨(some 103), (.mv (.tmp 3)), none⟩, 
                        ⟨(some 104), (.bin .eql (.tmp 103) (.const (.int .i64 2))), none⟩, 
                        ⟨(some 105), (.mv (.tmp 104)), none⟩, 
                        ⟨(some 106), (.fieldAddr 5 (.tmp 1)), (some (105, true))⟩, 
                        ⟨(some 107), (.load1 (.tmp 106)), (some (105, true))⟩, 
                        ⟨(some 108), (.idxSl 6 (.tmp 107) (.const (.int .i64 0))), (some (105, true))⟩, 
                        ⟨(some 109), (.loadN 6 (.tmp 108)), (some (105, true))⟩, 
                        ⟨(some 110), (.callF 81 [(.tmp 109)]), (some (105, true))⟩, 
                        ⟨(some 111), (.pick (.tmp 105) (.tmp 110) (.const (.bool false))), none⟩, 
                        ⟨(some 112), (.mv (.tmp 111)), none⟩, 
                        ⟨(some 113), (.fieldAddr 5 (.tmp 1)), (some (112, true))⟩, 
                        ⟨(some 114), (.load1 (.tmp 113)), (some (112, true))⟩, 
                        ⟨(some 115), (.callF 66 [(.tmp 114)]), (some (112, true))⟩, 
                        ⟨(some 116), (.pick (.tmp 112) (.tmp 115) (.const (.bool false))), none⟩, 
                        ⟨(some 2), (.mv (.tmp 116)), none⟩])
                       .ret)
                      (.seq (.seq (.ops [
                         ⟨(some 118), (.bin .eql (.tmp 13) (.const (.int .i64 12))), none⟩, 
                         ⟨(some 117), (.mv (.tmp 118)), none⟩])
                        (.cond (.tmp 117)
                         .skip
                         (.seq (.ops [
                           ⟨(some 119), (.bin .eql (.tmp 13) (.const (.int .i64 17))), none⟩, 
                           ⟨(some 117), (.mv (.tmp 119)), none⟩])
                          (.cond (.tmp 117)
                           .skip
                           (.seq (.ops [
                             ⟨(some 120), (.bin .eql (.tmp 13) (.const (.int .i64 18))), none⟩, 
                             ⟨(some 117), (.mv (.tmp 120)), none⟩])
                            (.cond (.tmp 117)
                             .skip
                             (.ops [
                              ⟨(some 121), (.bin .eql (.tmp 13) (.const (.int .i64 21))), none⟩, 
                              ⟨(some 117), (.mv (.tmp 121)), none⟩])))))))
                       (.cond (.tmp 117)
                        (.seq (.ops [
                          ⟨(some 122), (.mv (.tmp 3)), none⟩, 
                          ⟨(some 123), (.bin .eql (.tmp 122) (.const (.int .i64 2))), none⟩, 
                          ⟨(some 124), (.mv (.tmp 123)), none⟩, 
                          ⟨(some 125), (.fieldAddr 5 (.tmp 1)), (some (124, true))⟩, 
                          ⟨(some 126), (.load1 (.tmp 125)), (some (124, true))⟩, 
                          ⟨(some 127), (.callF 66 [(.tmp 126)]), (some (124, true))⟩, 
                          ⟨(some 128), (.pick (.tmp 124) (.tmp 127) (.const (.bool false))), none⟩, 
                          ⟨(some 2), (.mv (.tmp 128)), none⟩])
                         .ret)
                        (.seq (.ops [
                          ⟨(some 130), (.bin .eql (.tmp 13) (.const (.int .i64 19))), none⟩, 
                          ⟨(some 129), (.mv (.tmp 130)), none⟩])
                         (.cond (.tmp 129)
                          (.seq (.ops [
                            ⟨(some 131), (.mv (.tmp 3)), none⟩, 
                            ⟨(some 132), (.bin .eql (.tmp 131) (.const (.int .i64 3))), none⟩, 
                            ⟨(some 133), (.mv (.tmp 132)), none⟩, 
                            ⟨(some 134), (.fieldAddr 5 (.tmp 1)), (some (133, true))⟩, 
                            ⟨(some 135), (.load1 (.tmp 134)), (some (133, true))⟩, 
                            ⟨(some 136), (.callF 66 [(.tmp 135)]), (some (133, true))⟩, 
                            ⟨(some 137), (.pick (.tmp 133) (.tmp 136) (.const (.bool false))), none⟩, 
                            ⟨(some 2), (.mv (.tmp 137)), none⟩])
                           .ret)
                          .skip))))))))))))))))))))))
    (.seq (.ops [
      ⟨(some 2), (.mv (.const (.bool false))), none⟩])
     .ret)))))
theorem c63 {args : Array Value} {h : Heap} {R : Ending → Heap → Prop} (ha : args.size ≤ 138) (hh : aexec Tryz.prog ac63 (abody [(.slot 2)] R) ⟨initFr args.toList, []⟩ h) : HCalls Tryz.prog 63 args h R :=
  hcalls_of Tryz.func63 rfl rfl (by kernel_rfl) (by kernel_rfl) ha hh
/-- 64: credenza/credenzaref07.block -/
def ac64 : ACode :=
 (.seq (.ops [
  ⟨(some 1), (.box 25 (.tmp 0)), none⟩, 
  ⟨(some 2), (.mv (.const (.bool false))), none⟩])
 (.seq (.ops [
   ⟨(some 3), (.fieldAddr 0 (.tmp 1)), none⟩, 
   ⟨(some 4), (.load1 (.tmp 3)), none⟩, 
   ⟨(some 5), (.bin .eql (.tmp 4) (.const (.int .i64 25))), none⟩, 
   ⟨(some 6), (.mv (.tmp 5)), none⟩, 
   ⟨(some 7), (.loadN 6 (.tmp 1)), (some (6, true))⟩, 
   ⟨(some 8), (.callF 23 [(.tmp 7)]), (some (6, true))⟩, 
   ⟨(some 9), (.pick (.tmp 6) (.tmp 8) (.const (.bool false))), none⟩, 
   ⟨(some 10), (.mv (.tmp 9)), none⟩, 
   ⟨(some 11), (.fieldAddr 5 (.tmp 1)), (some (10, true))⟩, 
   ⟨(some 12), (.load1 (.tmp 11)), (some (10, true))⟩, 
   ⟨(some 13), (.callF 24 [(.tmp 12), (.const (.bool false))]), (some (10, true))⟩, 
   ⟨(some 14), (.pick (.tmp 10) (.tmp 13) (.const (.bool false))), none⟩, 
   ⟨(some 2), (.mv (.tmp 14)), none⟩])
  .ret))
theorem c64 {args : Array Value} {h : Heap} {R : Ending → Heap → Prop} (ha : args.size ≤ 15) (hh : aexec Tryz.prog ac64 (abody [(.slot 2)] R) ⟨initFr args.toList, []⟩ h) : HCalls Tryz.prog 64 args h R :=
  hcalls_of Tryz.func64 rfl rfl (by kernel_rfl) (by kernel_rfl) ha hh
/-- 65: credenza/credenzaref07.loop -/
def ac65 : ACode :=
 (.seq (.ops [
  ⟨(some 1), (.box 25 (.tmp 0)), none⟩, 
  ⟨(some 2), (.mv (.const (.bool false))), none⟩])
 (.seq (.ops [
   ⟨(some 4), (.fieldAddr 5 (.tmp 1)), none⟩, 
   ⟨(some 5), (.load1 (.tmp 4)), none⟩, 
   ⟨(some 3), (.mv (.tmp 5)), none⟩])
  (.seq (.seq (.ops [
     ⟨(some 6), (.fieldAddr 0 (.tmp 1)), none⟩, 
     ⟨(some 7), (.load1 (.tmp 6)), none⟩])
    (.block 0
     (.seq (.ops [
       ⟨(some 9), (.bin .eql (.tmp 7) (.const (.int .i64 27))), none⟩, 
       ⟨(some 8), (.mv (.tmp 9)), none⟩])
      (.cond (.tmp 8)
       (.seq (.ops [
         ⟨(some 10), (.mv (.tmp 3)), none⟩, 
         ⟨(some 11), (.lenSl (.tmp 10)), none⟩, 
         ⟨(some 12), (.bin .eql (.tmp 11) (.const (.int .i64 2))), none⟩, 
         ⟨(some 13), (.mv (.tmp 12)), none⟩, 
         ⟨(some 14), (.mv (.tmp 3)), (some (13, true))⟩, 
         ⟨(some 15), (.idxSl 6 (.tmp 14) (.const (.int .i64 0))), (some (13, true))⟩, 
         ⟨(some 16), (.loadN 6 (.tmp 15)), (some (13, true))⟩, 
         ⟨(some 17), (.callF 63 [(.tmp 16)]), (some (13, true))⟩, 
         ⟨(some 18), (.pick (.tmp 13) (.tmp 17) (.const (.bool false))), none⟩, 
         ⟨(some 19), (.mv (.tmp 18)), none⟩, 
         ⟨(some 20), (.mv (.tmp 3)), (some (19, true))⟩, 
         ⟨(some 21), (.idxSl 6 (.tmp 20) (.const (.int .i64 1))), (some (19, true))⟩, 
         ⟨(some 22), (.loadN 6 (.tmp 21)), (some (19, true))⟩, 
         ⟨(some 23), (.callF 64 [(.tmp 22)]), (some (19, true))⟩, 
         ⟨(some 24), (.pick (.tmp 19) (.tmp 23) (.const (.bool false))), none⟩, 
         ⟨(some 2), (.mv (.tmp 24)), none⟩])
        .ret)
       (.seq (.ops [
         ⟨(some 26), (.bin .eql (.tmp 7) (.const (.int .i64 28))), none⟩, 
         ⟨(some 25), (.mv (.tmp 26)), none⟩])
        (.cond (.tmp 25)
         (.seq (.ops [
           ⟨(some 27), (.mv (.tmp 3)), none⟩, 
           ⟨(some 28), (.lenSl (.tmp 27)), none⟩, 
           ⟨(some 29), (.bin .eql (.tmp 28) (.const (.int .i64 2))), none⟩, 
           ⟨(some 30), (.mv (.tmp 29)), none⟩, 
           ⟨(some 31), (.mv (.tmp 3)), (some (30, true))⟩, 
           ⟨(some 32), (.idxSl 6 (.tmp 31) (.const (.int .i64 0))), (some (30, true))⟩, 
           ⟨(some 33), (.loadN 6 (.tmp 32)), (some (30, true))⟩, 
           ⟨(some 34), (.callF 64 [(.tmp 33)]), (some (30, true))⟩, 
           ⟨(some 35), (.pick (.tmp 30) (.tmp 34) (.const (.bool false))), none⟩, 
           ⟨(some 36), (.mv (.tmp 35)), none⟩, 
           ⟨(some 37), (.mv (.tmp 3)), (some (36, true))⟩, 
           ⟨(some 38), (.idxSl 6 (.tmp 37) (.const (.int .i64 1))), (some (36, true))⟩, 
           ⟨(some 39), (.loadN 6 (.tmp 38)), (some (36, true))⟩, 
           ⟨(some 40), (.callF 63 [(.tmp 39)]), (some (36, true))⟩, 
           ⟨(some 41), (.pick (.tmp 36) (.tmp 40) (.const (.bool false))), none⟩, 
           ⟨(some 2), (.mv (.tmp 41)), none⟩])
          .ret)
         (.seq (.ops [
           ⟨(some 43), (.bin .eql (.tmp 7) (.const (.int .i64 29))), none⟩, 
           ⟨(some 42), (.mv (.tmp 43)), none⟩])
          (.cond (.tmp 42)
           (.seq (.ops [
             ⟨(some 44), (.mv (.tmp 3)), none⟩, 
             ⟨(some 45), (.lenSl (.tmp 44)), none⟩, 
             ⟨(some 46), (.bin .eql (.tmp 45) (.const (.int .i64 4))), none⟩, 
             ⟨(some 47), (.mv (.tmp 46)), none⟩, 
             ⟨(some 48), (.mv (.tmp 3)), (some (47, true))⟩, 
             ⟨(some 49), (.idxSl 6 (.tmp 48) (.const (.int .i64 0))), (some (47, true))⟩, 
             ⟨(some 50), (.loadN 6 (.tmp 49)), (some (47, true))⟩, 
             ⟨(some 51), (.callF 62 [(.tmp 50)]), (some (47, true))⟩, 
             ⟨(some 52), (.mv (.tmp 51)), (some (47, true))⟩, 
             ⟨(some 53), (.mv (.tmp 3)), (some (52, false))⟩, 
             ⟨(some 54), (.idxSl 6 (.tmp 53) (.const (.int .i64 0))), (some (52, false))⟩, 
             ⟨(some 55), (.loadN 6 (.tmp 54)), (some (52, false))⟩, 
             ⟨(some 56), (.callF 63 [(.tmp 55)]), (some (52, false))⟩, 
             ⟨(some 57), (.pick (.tmp 52) (.const (.bool true)) (.tmp 56)), (some (47, true))⟩, 
             ⟨(some 58), (.mv (.tmp 57)), (some (47, true))⟩, 
             ⟨(some 59), (.mv (.tmp 3)), (some (58, false))⟩, 
             ⟨(some 60), (.idxSl 6 (.tmp 59) (.const (.int .i64 0))), (some (58, false))⟩, 
             ⟨(some 61), (.loadN 6 (.tmp 60)), (some (58, false))⟩, 
             ⟨(some 62), (.callF 67 [(.tmp 61)]), (some (58, false))⟩, 
             ⟨(some 63), (.pick (.tmp 58) (.const (.bool true)) (.tmp 62)), (some (47, true))⟩, 
             ⟨(some 64), (.pick (.tmp 47) (.tmp 63) (.const (.bool false))), none⟩, 
             ⟨(some 65), (.mv (.tmp 64)), none⟩, 
             ⟨(some 66), (.mv (.tmp 3)), (some (65, true))⟩, 
             ⟨(some 67), (.idxSl 6 (.tmp 66) (.const (.int .i64 1))), (some (65, true))⟩, 
             ⟨(some 68), (.loadN 6 (.tmp 67)), (some (65, true))⟩, 
             ⟨(some 69), (.callF 63 [(.tmp 68)]), (some (65, true))⟩, 
             ⟨(some 70), (.mv (.tmp 69)), (some (65, true))⟩, 
             ⟨(some 71), (.mv (.tmp 3)), (some (70, false))⟩, 
             ⟨(some 72), (.idxSl 6 (.tmp 71) (.const (.int .i64 1))), (some (70, false))⟩, 
             ⟨(some 73), (.loadN 6 (.tmp 72)), (some (70, false))⟩, 
             ⟨(some 74), (.callF 67 [(.tmp 73)]), (some (70, false))⟩, 
             ⟨(some 75), (.pick (.tmp 70) (.const (.bool true)) (.tmp 74)), (some (65, true))⟩, 
             ⟨(some 76), (.pick (.tmp 65) (.tmp 75) (.const (.bool false))), none⟩, 
             ⟨(some 77), (.mv (.tmp 76)), none⟩, 
             ⟨(some 78), (.mv (.tmp 3)), (some (77, true))⟩, 
             ⟨(some 79), (.idxSl 6 (.tmp 78) (.const (.int .i64 2))), (some (77, true))⟩, 
             ⟨(some 80), (.loadN 6 (.tmp 79)), (some (77, true))⟩, 
             ⟨(some 81), (.callF 63 [(.tmp 80)]), (some (77, true))⟩, 
             ⟨(some 82), (.mv (.tmp 81)), (some (77, true))⟩, 
             ⟨(some 83), (.mv (.tmp 3)), (some (82, false))⟩, 
             ⟨(some 84), (.idxSl 6 (.tmp 83) (.const (.int .i64 2))), (some (82, false))⟩, 
             ⟨(some 85), (.loadN 6 (.tmp 84)), (some (82, false))⟩, 
             ⟨(some 86), (.callF 67 [(.tmp 85)]), (some (82, false))⟩, 
             ⟨(some 87), (.pick (.tmp 82) (.const (.bool true)) (.tmp 86)), (some (77, true))⟩, 
             ⟨(some 88), (.pick (.tmp 77) (.tmp 87) (.const (.bool false))), none⟩, 
             ⟨(some 89), (.mv (.tmp 88)), none⟩, 
             ⟨(some 90), (.mv (.tmp 3)), (some (89, true))⟩, 
             ⟨(some 91), (.idxSl 6 (.tmp 90) (.const (.int .i64 3))), (some (89, true))⟩, 
             ⟨(some 92), (.loadN 6 (.tmp 91)), (some (89, true))⟩, 
             ⟨(some 93), (.callF 64 [(.tmp 92)]), (some (89, true))⟩, 
             ⟨(some 94), (.pick (.tmp 89) (.tmp 93) (.const (.bool false))), none⟩, 
             ⟨(some 2), (.mv (.tmp 94)), none⟩])
            .ret)
           .skip))))))))
   (.seq (.seq (.ops [
      ⟨(some 95), (.mv (.tmp 3)), none⟩, 
      ⟨(some 96), (.lenSl (.tmp 95)), none⟩, 
      ⟨(some 97), (.bin .neq (.tmp 96) (.const (.int .i64 3))), none⟩, 
      ⟨(some 98), (.mv (.tmp 97)), none⟩, 
      ⟨(some 99), (.mv (.tmp 3)), (some (98, false))⟩, 
      ⟨(some 100), (.idxSl 6 (.tmp 99) (.const (.int .i64 1))), (some (98, false))⟩, 
      ⟨(some 101), (.loadN 6 (.tmp 100)), (some (98, false))⟩, 
      ⟨(some 102), (.callF 63 [(.tmp 101)]), (some (98, false))⟩, 
      ⟨(some 103), (.un .not (.tmp 102)), (some (98, false))⟩, 
      ⟨(some 104), (.pick (.tmp 98) (.const (.bool true)) (.tmp 103)), none⟩, 
      ⟨(some 105), (.mv (.tmp 104)), none⟩, 
      ⟨(some 106), (.mv (.tmp 3)), (some (105, false))⟩, 
      ⟨(some 107), (.idxSl 6 (.tmp 106) (.const (.int .i64 2))), (some (105, false))⟩, 
      ⟨(some 108), (.loadN 6 (.tmp 107)), (some (105, false))⟩, 
      ⟨(some 109), (.callF 64 [(.tmp 108)]), (some (105, false))⟩, 
      ⟨(some 110), (.un .not (.tmp 109)), (some (105, false))⟩, 
      ⟨(some 111), (.pick (.tmp 105) (.const (.bool true)) (.tmp 110)), none⟩])
     (.cond (.tmp 111)
      (.seq (.ops [
        ⟨(some 2), (.mv (.const (.bool false))), none⟩])
       .ret)
      .skip))
    (.seq (.seq (.ops [
       ⟨(some 112), (.mv (.tmp 3)), none⟩, 
       ⟨(some 113), (.idxSl 6 (.tmp 112) (.const (.int .i64 0))), none⟩, 
       ⟨(some 114), (.fieldAddr 0 (.tmp 113)), none⟩, 
       ⟨(some 115), (.load1 (.tmp 114)), none⟩, 
       ⟨(some 116), (.bin .eql (.tmp 115) (.const (.int .i64 22))), none⟩])
      (.cond (.tmp 116)
       (.seq (.ops [
         ⟨(some 117), (.mv (.tmp 3)), none⟩, 
         ⟨(some 118), (.idxSl 6 (.tmp 117) (.const (.int .i64 0))), none⟩, 
         ⟨(some 119), (.loadN 6 (.tmp 118)), none⟩, 
         ⟨(some 120), (.callF 62 [(.tmp 119)]), none⟩, 
         ⟨(some 121), (.mv (.tmp 120)), none⟩, 
         ⟨(some 122), (.mv (.tmp 3)), (some (121, true))⟩, 
         ⟨(some 123), (.idxSl 6 (.tmp 122) (.const (.int .i64 0))), (some (121, true))⟩, 
         ⟨(some 124), (.fieldAddr 5 (.tmp 123)), (some (121, true))⟩, 
         ⟨(some 125), (.load1 (.tmp 124)), (some (121, true))⟩, 
         ⟨(some 126), (.lenSl (.tmp 125)), (some (121, true))⟩, 
         ⟨(some 127), (.bin .eql (.tmp 126) (.const (.int .i64 1))), (some (121, true))⟩, 
         ⟨(some 128), (.pick (.tmp 121) (.tmp 127) (.const (.bool false))), none⟩, 
         ⟨(some 129), (.mv (.tmp 128)), none⟩, 
         ⟨(some 130), (.mv (.tmp 3)), (some (129, true))⟩, 
         ⟨(some 131), (.idxSl 6 (.tmp 130) (.const (.int .i64 0))), (some (129, true))⟩, 
         ⟨(some 132), (.fieldAddr 5 (.tmp 131)), (some (129, true))⟩, 
         ⟨(some 133), (.load1 (.tmp 132)), (some (129, true))⟩, 
         ⟨(some 134), (.idxSl 6 (.tmp 133) (.const (.int .i64 0))), (some (129, true))⟩, 
         ⟨(some 135), (.fieldAddr 5 (.tmp 134)), (some (129, true))⟩, 
         ⟨(some 136), (.load1 (.tmp 135)), (some (129, true))⟩, 
         ⟨(some 137), (.lenSl (.tmp 136)), (some (129, true))⟩, 
         ⟨(some 138), (.bin .eql (.tmp 137) (.const (.int .i64 0))), (some (129, true))⟩, 
         ⟨(some 139), (.pick (.tmp 129) (.tmp 138) (.const (.bool false))), none⟩, 
         ⟨(some 2), (.mv (.tmp 139)), none⟩])
        .ret)
       .skip))
     (.seq (.ops [
       ⟨(some 140), (.mv (.tmp 3)), none⟩, 
       ⟨(some 141), (.idxSl 6 (.tmp 140) (.const (.int .i64 0))), none⟩, 
       ⟨(some 142), (.loadN 6 (.tmp 141)), none⟩, 
       ⟨(some 143), (.callF 81 [(.tmp 142)]), none⟩, 
       ⟨(some 144), (.mv (.tmp 143)), none⟩, 
       ⟨(some 145), (.mv (.tmp 3)), (some (144, true))⟩, 
       ⟨(some 146), (.idxSl 6 (.tmp 145) (.const (.int .i64 0))), (some (144, true))⟩, 
       ⟨(some 147), (.loadN 6 (.tmp 146)), (some (144, true))⟩, 
       ⟨(some 148), (.callF 63 [(.tmp 147)]), (some (144, true))⟩, 
       ⟨(some 149), (.pick (.tmp 144) (.tmp 148) (.const (.bool false))), none⟩, 
       ⟨(some 2), (.mv (.tmp 149)), none⟩])
      .ret))))))
theorem c65 {args : Array Value} {h : Heap} {R : Ending → Heap → Prop} (ha : args.size ≤ 150) (hh : aexec Tryz.prog ac65 (abody [(.slot 2)] R) ⟨initFr args.toList, []⟩ h) : HCalls Tryz.prog 65 args h R :=
  hcalls_of Tryz.func65 rfl rfl (by kernel_rfl) (by kernel_rfl) ha hh
/-- 66: credenza/credenzaref07.exprs -/
def ac66 : ACode :=
 (.seq (.ops [
  ⟨(some 2), (.mv (.const (.bool false))), none⟩])
 (.seq (.seq (.ops [
    ⟨(some 5), (.mv (.tmp 0)), none⟩, 
    ⟨(some 6), (.lenSl (.tmp 5)), none⟩, 
    ⟨(some 7), (.mv (.const (.int .i64 0))), none⟩])
   (.block 0
    (.loop
     (.seq (.ops [
       ⟨(some 8), (.bin .lss (.tmp 7) (.tmp 6)), none⟩])
      (.seq (.cond (.tmp 8)
        .skip
        (.exit 0))
       (.seq (.block 1
         (.seq (.ops [
           ⟨(some 9), (.idxSl 6 (.tmp 5) (.tmp 7)), none⟩, 
           ⟨(some 10), (.loadN 6 (.tmp 9)), none⟩, 
           ⟨(some 4), (.new 25 [(.int .i64 0), (.string ⟨#[]⟩), (.int .i64 0), (.string ⟨#[]⟩), (.slice none 0 0), (.slice none 0 0)]), none⟩, 
           ⟨none, (.storeN 6 (.tmp 4) (.tmp 10)), none⟩])
          (.seq (.ops [
            ⟨(some 11), (.loadN 6 (.tmp 4)), none⟩, 
            ⟨(some 12), (.callF 63 [(.tmp 11)]), none⟩, 
            ⟨(some 13), (.un .not (.tmp 12)), none⟩])
           (.cond (.tmp 13)
            (.seq (.ops [
              ⟨(some 2), (.mv (.const (.bool false))), none⟩])
             .ret)
            .skip))))
        (.ops [
         ⟨(some 14), (.bin .add (.tmp 7) (.const (.int .i64 1))), none⟩, 
         ⟨(some 7), (.mv (.tmp 14)), none⟩])))))))
  (.seq (.ops [
    ⟨(some 2), (.mv (.const (.bool true))), none⟩])
   .ret)))
theorem c66 {args : Array Value} {h : Heap} {R : Ending → Heap → Prop} (ha : args.size ≤ 15) (hh : aexec Tryz.prog ac66 (abody [(.slot 2)] R) ⟨initFr args.toList, []⟩ h) : HCalls Tryz.prog 66 args h R :=
  hcalls_of Tryz.func66 rfl rfl (by kernel_rfl) (by kernel_rfl) ha hh
/-- 67: credenza/credenzaref07.empty -/
def ac67 : ACode :=
 (.seq (.ops [
  ⟨(some 1), (.box 25 (.tmp 0)), none⟩, 
  ⟨(some 2), (.mv (.const (.bool false))), none⟩])
 (.seq (.ops [
   ⟨(some 3), (.fieldAddr 0 (.tmp 1)), none⟩, 
   ⟨(some 4), (.load1 (.tmp 3)), none⟩, 
   ⟨(some 5), (.bin .eql (.tmp 4) (.const (.int .i64 42))), none⟩, 
   ⟨(some 6), (.mv (.tmp 5)), none⟩, 
   ⟨(some 7), (.loadN 6 (.tmp 1)), (some (6, true))⟩, 
   ⟨(some 8), (.callF 23 [(.tmp 7)]), (some (6, true))⟩, 
   ⟨(some 9), (.pick (.tmp 6) (.tmp 8) (.const (.bool false))), none⟩, 
   ⟨(some 10), (.mv (.tmp 9)), none⟩, 
   ⟨(some 11), (.fieldAddr 5 (.tmp 1)), (some (10, true))⟩, 
   ⟨(some 12), (.load1 (.tmp 11)), (some (10, true))⟩, 
   ⟨(some 13), (.lenSl (.tmp 12)), (some (10, true))⟩, 
   ⟨(some 14), (.bin .eql (.tmp 13) (.const (.int .i64 0))), (some (10, true))⟩, 
   ⟨(some 15), (.pick (.tmp 10) (.tmp 14) (.const (.bool false))), none⟩, 
   ⟨(some 2), (.mv (.tmp 15)), none⟩])
  .ret))
theorem c67 {args : Array Value} {h : Heap} {R : Ending → Heap → Prop} (ha : args.size ≤ 16) (hh : aexec Tryz.prog ac67 (abody [(.slot 2)] R) ⟨initFr args.toList, []⟩ h) : HCalls Tryz.prog 67 args h R :=
  hcalls_of Tryz.func67 rfl rfl (by kernel_rfl) (by kernel_rfl) ha hh

end Go.Proofs.YtlogpojkkbcpjaaGreat.Hc
