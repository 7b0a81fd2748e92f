import Derived.Test.YtmibnfjjlibpgaaDoorProg
import Derived.Test.YtmibnfjjlibpgaaDoorHM
import Derived.Test.YtmibnfjjlibpgaaDoorHP
import Derived.KernelRfl
set_option linter.unusedVariables false
namespace Go.Proofs.YtmibnfjjlibpgaaDoor.Hc
open Go Go.H Go.Proofs
set_option maxRecDepth 100000
/-- 2: gosem.cut.init -/
def ac2 : ACode :=
 (.ops [
 ⟨(some 0), (.raw ⟨(some 0), (.call ⟨(.value (.func 1)), #[], #[]⟩), 0, "", #[], none⟩), none⟩])
theorem c2 {args : Array Value} {h : Heap} {R : Ending → Heap → Prop} (ha : args.size ≤ 1) (hh : aexec Tryd.prog ac2 (abody [] R) ⟨initFr args.toList, []⟩ h) : HCalls Tryd.prog 2 args h R :=
  hcalls_of Tryd.func2 rfl rfl (by kernel_rfl) (by kernel_rfl) ha hh
/-- 3: credenza/credenzalaw03.DataChecks -/
def ac3 : ACode :=
 (.seq (.ops [
  ⟨(some 1), (.box 25 (.tmp 0)), none⟩, 
  ⟨(some 2), (.mv (.const (.bool false))), none⟩])
 (.seq (.seq (.any [3, 4, 5, 6, 7, 8, 9, 10, 2] [
    ⟨(some 3), (.callF 10 []), none⟩, 
    ⟨(some 4), (.mv (.tmp 3)), none⟩, 
    ⟨(some 5), (.loadN 5 (.tmp 1)), (some (4, true))⟩])
   (.alt
    (.any [3, 4, 5, 6, 7, 8, 9, 10, 2] [
     ⟨(some 6), (.callF 11 [(.tmp 5)]), (some (4, true))⟩, 
     ⟨(some 7), (.loadN 5 (.tmp 1)), (some (4, true))⟩, 
     ⟨(some 8), (.callF 12 [(.tmp 7)]), (some (4, true))⟩, 
     ⟨(some 9), (.bin .eql (.tmp 6) (.tmp 8)), (some (4, true))⟩, 
     ⟨(some 10), (.pick (.tmp 4) (.tmp 9) (.const (.bool false))), none⟩, 
     ⟨(some 2), (.mv (.tmp 10)), none⟩])
    (.any [3, 4, 5, 6, 7, 8, 9, 10, 2] [
     ⟨(some 7), (.loadN 5 (.tmp 1)), (some (4, true))⟩, 
     ⟨(some 6), (.callF 11 [(.tmp 5)]), (some (4, true))⟩, 
     ⟨(some 8), (.callF 12 [(.tmp 7)]), (some (4, true))⟩, 
     ⟨(some 9), (.bin .eql (.tmp 6) (.tmp 8)), (some (4, true))⟩, 
     ⟨(some 10), (.pick (.tmp 4) (.tmp 9) (.const (.bool false))), none⟩, 
     ⟨(some 2), (.mv (.tmp 10)), none⟩])))
  .ret))
theorem c3 {args : Array Value} {h : Heap} {R : Ending → Heap → Prop} (ha : args.size ≤ 11) (hh : aexec Tryd.prog ac3 (abody [(.slot 2)] R) ⟨initFr args.toList, []⟩ h) : HCalls Tryd.prog 3 args h R :=
  hcalls_of Tryd.func3 rfl rfl (by kernel_rfl) (by kernel_rfl) ha hh
/-- 4: credenza/credenzalaw03.DataLooks -/
def ac4 : ACode :=
 (.seq (.ops [
  ⟨(some 3), (.box 25 (.tmp 0)), none⟩, 
  ⟨(some 4), (.box 25 (.tmp 1)), none⟩, 
  ⟨(some 6), (.mv (.const (.bool false))), none⟩])
 (.seq (.ops [
   ⟨(some 12), (.loadN 5 (.tmp 3)), none⟩, 
   ⟨(some 13), (.mv (.tmp 2)), none⟩, 
   ⟨(some 14), (.callF 13 [(.tmp 12), (.tmp 13)]), none⟩, 
   ⟨(some 11), (.mv (.tmp 14)), none⟩, 
   ⟨(some 15), (.extract (.tmp 11) 0), none⟩, 
   ⟨(some 16), (.extract (.tmp 11) 1), none⟩, 
   ⟨(some 7), (.new 25 [(.int .i64 0), (.int .i64 0), (.string ⟨#[]⟩), (.slice none 0 0), (.slice none 0 0)]), none⟩, 
   ⟨none, (.storeN 5 (.tmp 7) (.tmp 15)), none⟩, 
   ⟨(some 8), (.mv (.tmp 16)), none⟩])
  (.seq (.ops [
    ⟨(some 18), (.loadN 5 (.tmp 3)), none⟩, 
    ⟨(some 19), (.mv (.tmp 2)), none⟩, 
    ⟨(some 20), (.callF 14 [(.tmp 18), (.tmp 19)]), none⟩, 
    ⟨(some 17), (.mv (.tmp 20)), none⟩, 
    ⟨(some 21), (.extract (.tmp 17) 0), none⟩, 
    ⟨(some 22), (.extract (.tmp 17) 1), none⟩, 
    ⟨(some 9), (.new 25 [(.int .i64 0), (.int .i64 0), (.string ⟨#[]⟩), (.slice none 0 0), (.slice none 0 0)]), none⟩, 
    ⟨none, (.storeN 5 (.tmp 9) (.tmp 21)), none⟩, 
    ⟨(some 10), (.mv (.tmp 22)), none⟩])
   (.seq (.seq (.any [23, 24, 25, 26, 27, 28, 29, 30, 31, 32, 33, 34, 35, 36, 37, 38, 39, 40, 41, 42, 43, 44, 45, 46, 47, 48, 49, 6] [
      ⟨(some 23), (.callF 10 []), none⟩, 
      ⟨(some 24), (.mv (.tmp 23)), none⟩, 
      ⟨(some 25), (.loadN 5 (.tmp 3)), (some (24, true))⟩, 
      ⟨(some 26), (.loadN 5 (.tmp 4)), (some (24, true))⟩])
     (.seq (.alt
       (.any [23, 24, 25, 26, 27, 28, 29, 30, 31, 32, 33, 34, 35, 36, 37, 38, 39, 40, 41, 42, 43, 44, 45, 46, 47, 48, 49, 6] [
        ⟨(some 27), (.callF 15 [(.tmp 25), (.tmp 26)]), (some (24, true))⟩, 
        ⟨(some 28), (.loadN 5 (.tmp 3)), (some (24, true))⟩, 
        ⟨(some 29), (.loadN 5 (.tmp 4)), (some (24, true))⟩])
       (.alt
        (.seq (.any [23, 24, 25, 26, 27, 28, 29, 30, 31, 32, 33, 34, 35, 36, 37, 38, 39, 40, 41, 42, 43, 44, 45, 46, 47, 48, 49, 6] [
          ⟨(some 28), (.loadN 5 (.tmp 3)), (some (24, true))⟩])
         (.alt
          (.any [23, 24, 25, 26, 27, 28, 29, 30, 31, 32, 33, 34, 35, 36, 37, 38, 39, 40, 41, 42, 43, 44, 45, 46, 47, 48, 49, 6] [
           ⟨(some 27), (.callF 15 [(.tmp 25), (.tmp 26)]), (some (24, true))⟩, 
           ⟨(some 29), (.loadN 5 (.tmp 4)), (some (24, true))⟩])
          (.any [23, 24, 25, 26, 27, 28, 29, 30, 31, 32, 33, 34, 35, 36, 37, 38, 39, 40, 41, 42, 43, 44, 45, 46, 47, 48, 49, 6] [
           ⟨(some 29), (.loadN 5 (.tmp 4)), (some (24, true))⟩, 
           ⟨(some 27), (.callF 15 [(.tmp 25), (.tmp 26)]), (some (24, true))⟩])))
        (.seq (.any [23, 24, 25, 26, 27, 28, 29, 30, 31, 32, 33, 34, 35, 36, 37, 38, 39, 40, 41, 42, 43, 44, 45, 46, 47, 48, 49, 6] [
          ⟨(some 29), (.loadN 5 (.tmp 4)), (some (24, true))⟩])
         (.alt
          (.any [23, 24, 25, 26, 27, 28, 29, 30, 31, 32, 33, 34, 35, 36, 37, 38, 39, 40, 41, 42, 43, 44, 45, 46, 47, 48, 49, 6] [
           ⟨(some 27), (.callF 15 [(.tmp 25), (.tmp 26)]), (some (24, true))⟩, 
           ⟨(some 28), (.loadN 5 (.tmp 3)), (some (24, true))⟩])
          (.any [23, 24, 25, 26, 27, 28, 29, 30, 31, 32, 33, 34, 35, 36, 37, 38, 39, 40, 41, 42, 43, 44, 45, 46, 47, 48, 49, 6] [
           ⟨(some 28), (.loadN 5 (.tmp 3)), (some (24, true))⟩, 
           ⟨(some 27), (.callF 15 [(.tmp 25), (.tmp 26)]), (some (24, true))⟩])))))
      (.seq (.any [23, 24, 25, 26, 27, 28, 29, 30, 31, 32, 33, 34, 35, 36, 37, 38, 39, 40, 41, 42, 43, 44, 45, 46, 47, 48, 49, 6] [
        ⟨(some 30), (.callF 16 [(.tmp 28), (.tmp 29)]), (some (24, true))⟩, 
        ⟨(some 31), (.eqB false (.tmp 27) (.tmp 30)), (some (24, true))⟩, 
        ⟨(some 32), (.pick (.tmp 24) (.tmp 31) (.const (.bool false))), none⟩, 
        ⟨(some 33), (.mv (.tmp 32)), none⟩, 
        ⟨(some 34), (.loadN 5 (.tmp 3)), (some (33, true))⟩])
       (.seq (.alt
         (.any [23, 24, 25, 26, 27, 28, 29, 30, 31, 32, 33, 34, 35, 36, 37, 38, 39, 40, 41, 42, 43, 44, 45, 46, 47, 48, 49, 6] [
          ⟨(some 35), (.callF 17 [(.tmp 34)]), (some (33, true))⟩, 
          ⟨(some 36), (.loadN 5 (.tmp 3)), (some (33, true))⟩])
         (.any [23, 24, 25, 26, 27, 28, 29, 30, 31, 32, 33, 34, 35, 36, 37, 38, 39, 40, 41, 42, 43, 44, 45, 46, 47, 48, 49, 6] [
          ⟨(some 36), (.loadN 5 (.tmp 3)), (some (33, true))⟩, 
          ⟨(some 35), (.callF 17 [(.tmp 34)]), (some (33, true))⟩]))
        (.any [23, 24, 25, 26, 27, 28, 29, 30, 31, 32, 33, 34, 35, 36, 37, 38, 39, 40, 41, 42, 43, 44, 45, 46, 47, 48, 49, 6] [
         ⟨(some 37), (.callF 18 [(.tmp 36)]), (some (33, true))⟩, 
         ⟨(some 38), (.bin .eql (.tmp 35) (.tmp 37)), (some (33, true))⟩, 
         ⟨(some 39), (.pick (.tmp 33) (.tmp 38) (.const (.bool false))), none⟩, 
         ⟨(some 40), (.mv (.tmp 39)), none⟩, 
         ⟨(some 41), (.loadN 5 (.tmp 7)), (some (40, true))⟩, 
         ⟨(some 42), (.loadN 5 (.tmp 9)), (some (40, true))⟩, 
         ⟨(some 43), (.callF 16 [(.tmp 41), (.tmp 42)]), (some (40, true))⟩, 
         ⟨(some 44), (.pick (.tmp 40) (.tmp 43) (.const (.bool false))), none⟩, 
         ⟨(some 45), (.mv (.tmp 44)), none⟩, 
         ⟨(some 46), (.mv (.tmp 8)), (some (45, true))⟩, 
         ⟨(some 47), (.mv (.tmp 10)), (some (45, true))⟩, 
         ⟨(some 48), (.eqB false (.tmp 46) (.tmp 47)), (some (45, true))⟩, 
         ⟨(some 49), (.pick (.tmp 45) (.tmp 48) (.const (.bool false))), none⟩, 
         ⟨(some 6), (.mv (.tmp 49)), none⟩])))))
    .ret))))
theorem c4 {args : Array Value} {h : Heap} {R : Ending → Heap → Prop} (ha : args.size ≤ 50) (hh : aexec Tryd.prog ac4 (abody [(.slot 6)] R) ⟨initFr args.toList, []⟩ h) : HCalls Tryd.prog 4 args h R :=
  hcalls_of Tryd.func4 rfl rfl (by kernel_rfl) (by kernel_rfl) ha hh
/-- 5: credenza/credenzalaw03.DataTexts -/
def ac5 : ACode :=
 (.seq (.ops [
  ⟨(some 1), (.box 25 (.tmp 0)), none⟩, 
  ⟨(some 2), (.mv (.const (.bool false))), none⟩])
 (.seq (.ops [
   ⟨(some 8), (.loadN 5 (.tmp 1)), none⟩, 
   ⟨(some 9), (.callF 19 [(.tmp 8)]), none⟩, 
   ⟨(some 7), (.mv (.tmp 9)), none⟩, 
   ⟨(some 10), (.extract (.tmp 7) 0), none⟩, 
   ⟨(some 11), (.extract (.tmp 7) 1), none⟩, 
   ⟨(some 3), (.mv (.tmp 10)), none⟩, 
   ⟨(some 4), (.mv (.tmp 11)), none⟩])
  (.seq (.ops [
    ⟨(some 13), (.loadN 5 (.tmp 1)), none⟩, 
    ⟨(some 14), (.callF 20 [(.tmp 13)]), none⟩, 
    ⟨(some 12), (.mv (.tmp 14)), none⟩, 
    ⟨(some 15), (.extract (.tmp 12) 0), none⟩, 
    ⟨(some 16), (.extract (.tmp 12) 1), none⟩, 
    ⟨(some 5), (.mv (.tmp 15)), none⟩, 
    ⟨(some 6), (.mv (.tmp 16)), none⟩])
   (.seq (.ops [
     ⟨(some 17), (.callF 10 []), none⟩, 
     ⟨(some 18), (.mv (.tmp 17)), none⟩, 
     ⟨(some 19), (.mv (.tmp 3)), (some (18, true))⟩, 
     ⟨(some 20), (.mv (.tmp 5)), (some (18, true))⟩, 
     ⟨(some 21), (.bin .eql (.tmp 19) (.tmp 20)), (some (18, true))⟩, 
     ⟨(some 22), (.pick (.tmp 18) (.tmp 21) (.const (.bool false))), none⟩, 
     ⟨(some 23), (.mv (.tmp 22)), none⟩, 
     ⟨(some 24), (.mv (.tmp 4)), (some (23, true))⟩, 
     ⟨(some 25), (.mv (.tmp 6)), (some (23, true))⟩, 
     ⟨(some 26), (.bin .eql (.tmp 24) (.tmp 25)), (some (23, true))⟩, 
     ⟨(some 27), (.pick (.tmp 23) (.tmp 26) (.const (.bool false))), none⟩, 
     ⟨(some 2), (.mv (.tmp 27)), none⟩])
    .ret))))
theorem c5 {args : Array Value} {h : Heap} {R : Ending → Heap → Prop} (ha : args.size ≤ 28) (hh : aexec Tryd.prog ac5 (abody [(.slot 2)] R) ⟨initFr args.toList, []⟩ h) : HCalls Tryd.prog 5 args h R :=
  hcalls_of Tryd.func5 rfl rfl (by kernel_rfl) (by kernel_rfl) ha hh
/-- 6: credenza/credenzalaw03.DataCopies -/
def ac6 : ACode :=
 (.seq (.ops [
  ⟨(some 1), (.box 25 (.tmp 0)), none⟩, 
  ⟨(some 2), (.mv (.const (.bool false))), none⟩])
 (.seq (.ops [
   ⟨(some 6), (.callF 10 []), none⟩, 
   ⟨(some 3), (.mv (.tmp 6)), none⟩])
  (.seq (.ops [
    ⟨(some 7), (.loadN 5 (.tmp 1)), none⟩, 
    ⟨(some 8), (.callF 21 [(.tmp 7)]), none⟩, 
    ⟨(some 4), (.new 25 [(.int .i64 0), (.int .i64 0), (.string ⟨#[]⟩), (.slice none 0 0), (.slice none 0 0)]), none⟩, 
    ⟨none, (.storeN 5 (.tmp 4) (.tmp 8)), none⟩])
   (.seq (.ops [
     ⟨(some 9), (.loadN 5 (.tmp 1)), none⟩, 
     ⟨(some 10), (.callF 21 [(.tmp 9)]), none⟩, 
     ⟨(some 5), (.new 25 [(.int .i64 0), (.int .i64 0), (.string ⟨#[]⟩), (.slice none 0 0), (.slice none 0 0)]), none⟩, 
     ⟨none, (.storeN 5 (.tmp 5) (.tmp 10)), none⟩])
    (.seq (.seq (.ops [
       ⟨(some 11), (.loadN 5 (.tmp 4)), none⟩, 
       ⟨(some 12), (.loadN 5 (.tmp 1)), none⟩, 
       ⟨(some 13), (.callF 16 [(.tmp 11), (.tmp 12)]), none⟩, 
       ⟨(some 14), (.un .not (.tmp 13)), none⟩])
      (.cond (.tmp 14)
       (.seq (.ops [
         ⟨(some 2), (.mv (.const (.bool false))), none⟩])
        .ret)
       .skip))
     (.seq (.ops [
       ⟨(some 15), (.loadN 5 (.tmp 4)), none⟩, 
       ⟨(some 16), (.callF 22 [(.tmp 15)]), none⟩])
      (.seq (.ops [
        ⟨(some 17), (.mv (.tmp 3)), none⟩, 
        ⟨(some 18), (.mv (.tmp 17)), none⟩, 
        ⟨(some 19), (.loadN 5 (.tmp 5)), (some (18, true))⟩, 
        ⟨(some 20), (.loadN 5 (.tmp 1)), (some (18, true))⟩, 
        ⟨(some 21), (.callF 16 [(.tmp 19), (.tmp 20)]), (some (18, true))⟩, 
        ⟨(some 22), (.pick (.tmp 18) (.tmp 21) (.const (.bool false))), none⟩, 
        ⟨(some 23), (.mv (.tmp 22)), none⟩, 
        ⟨(some 24), (.loadN 5 (.tmp 5)), (some (23, true))⟩, 
        ⟨(some 25), (.loadN 5 (.tmp 1)), (some (23, true))⟩, 
        ⟨(some 26), (.callF 15 [(.tmp 24), (.tmp 25)]), (some (23, true))⟩, 
        ⟨(some 27), (.pick (.tmp 23) (.tmp 26) (.const (.bool false))), none⟩, 
        ⟨(some 2), (.mv (.tmp 27)), none⟩])
       .ret)))))))
theorem c6 {args : Array Value} {h : Heap} {R : Ending → Heap → Prop} (ha : args.size ≤ 28) (hh : aexec Tryd.prog ac6 (abody [(.slot 2)] R) ⟨initFr args.toList, []⟩ h) : HCalls Tryd.prog 6 args h R :=
  hcalls_of Tryd.func6 rfl rfl (by kernel_rfl) (by kernel_rfl) ha hh
/-- 7: credenza/credenzalaw03.DataApart -/
def ac7 : ACode :=
 (.seq (.ops [
  ⟨(some 2), (.box 25 (.tmp 0)), none⟩, 
  ⟨(some 3), (.box 25 (.tmp 1)), none⟩, 
  ⟨(some 4), (.mv (.const (.bool false))), none⟩])
 (.seq (.ops [
   ⟨(some 10), (.callF 10 []), none⟩, 
   ⟨(some 5), (.mv (.tmp 10)), none⟩])
  (.seq (.ops [
    ⟨(some 12), (.loadN 5 (.tmp 2)), none⟩, 
    ⟨(some 13), (.callF 19 [(.tmp 12)]), none⟩, 
    ⟨(some 11), (.mv (.tmp 13)), none⟩, 
    ⟨(some 14), (.extract (.tmp 11) 0), none⟩, 
    ⟨(some 15), (.extract (.tmp 11) 1), none⟩, 
    ⟨(some 6), (.mv (.tmp 14)), none⟩, 
    ⟨(some 7), (.mv (.tmp 15)), none⟩])
   (.seq (.ops [
     ⟨(some 17), (.loadN 5 (.tmp 3)), none⟩, 
     ⟨(some 18), (.callF 19 [(.tmp 17)]), none⟩, 
     ⟨(some 16), (.mv (.tmp 18)), none⟩, 
     ⟨(some 19), (.extract (.tmp 16) 0), none⟩, 
     ⟨(some 20), (.extract (.tmp 16) 1), none⟩, 
     ⟨(some 8), (.mv (.tmp 19)), none⟩, 
     ⟨(some 9), (.mv (.tmp 20)), none⟩])
    (.seq (.seq (.ops [
       ⟨(some 21), (.mv (.tmp 7)), none⟩, 
       ⟨(some 22), (.bin .neq (.tmp 21) (.const (.int .i64 0))), none⟩, 
       ⟨(some 23), (.mv (.tmp 22)), none⟩, 
       ⟨(some 24), (.mv (.tmp 9)), (some (23, false))⟩, 
       ⟨(some 25), (.bin .neq (.tmp 24) (.const (.int .i64 0))), (some (23, false))⟩, 
       ⟨(some 26), (.pick (.tmp 23) (.const (.bool true)) (.tmp 25)), none⟩])
      (.cond (.tmp 26)
       (.seq (.ops [
         ⟨(some 27), (.mv (.tmp 5)), none⟩, 
         ⟨(some 4), (.mv (.tmp 27)), none⟩])
        .ret)
       .skip))
     (.seq (.ops [
       ⟨(some 28), (.mv (.tmp 5)), none⟩, 
       ⟨(some 29), (.mv (.tmp 28)), none⟩, 
       ⟨(some 30), (.mv (.tmp 6)), (some (29, true))⟩, 
       ⟨(some 31), (.mv (.tmp 8)), (some (29, true))⟩, 
       ⟨(some 32), (.bin .eql (.tmp 30) (.tmp 31)), (some (29, true))⟩, 
       ⟨(some 33), (.loadN 5 (.tmp 2)), (some (29, true))⟩, 
       ⟨(some 34), (.loadN 5 (.tmp 3)), (some (29, true))⟩, 
       ⟨(some 35), (.callF 16 [(.tmp 33), (.tmp 34)]), (some (29, true))⟩, 
       ⟨(some 36), (.eqB false (.tmp 32) (.tmp 35)), (some (29, true))⟩, 
       ⟨(some 37), (.pick (.tmp 29) (.tmp 36) (.const (.bool false))), none⟩, 
       ⟨(some 4), (.mv (.tmp 37)), none⟩])
      .ret))))))
theorem c7 {args : Array Value} {h : Heap} {R : Ending → Heap → Prop} (ha : args.size ≤ 38) (hh : aexec Tryd.prog ac7 (abody [(.slot 4)] R) ⟨initFr args.toList, []⟩ h) : HCalls Tryd.prog 7 args h R :=
  hcalls_of Tryd.func7 rfl rfl (by kernel_rfl) (by kernel_rfl) ha hh
/-- 8: credenza/credenzalaw03.DataWithin -/
def ac8 : ACode :=
 (.seq (.ops [
  ⟨(some 1), (.box 25 (.tmp 0)), none⟩, 
  ⟨(some 2), (.mv (.const (.bool false))), none⟩])
 (.seq (.ops [
   ⟨(some 9), (.callF 10 []), none⟩, 
   ⟨(some 3), (.mv (.tmp 9)), none⟩])
  (.seq (.seq (.ops [
     ⟨(some 10), (.loadN 5 (.tmp 1)), none⟩, 
     ⟨(some 11), (.callF 11 [(.tmp 10)]), none⟩, 
     ⟨(some 12), (.bin .neq (.tmp 11) (.const (.int .i64 0))), none⟩])
    (.cond (.tmp 12)
     (.seq (.ops [
       ⟨(some 13), (.mv (.tmp 3)), none⟩, 
       ⟨(some 2), (.mv (.tmp 13)), none⟩])
      .ret)
     .skip))
   (.seq (.ops [
     ⟨(some 4), (.mv (.const (.int .i64 1))), none⟩])
    (.seq (.seq (.ops [
       ⟨(some 14), (.fieldAddr 4 (.tmp 1)), none⟩, 
       ⟨(some 15), (.load1 (.tmp 14)), none⟩, 
       ⟨(some 16), (.lenSl (.tmp 15)), none⟩, 
       ⟨(some 17), (.mv (.const (.int .i64 0))), none⟩])
      (.block 0
       (.loop
        (.seq (.ops [
          ⟨(some 18), (.bin .lss (.tmp 17) (.tmp 16)), none⟩])
         (.seq (.cond (.tmp 18)
           .skip
           (.exit 0))
          (.seq (.block 1
            (.seq (.ops [
              ⟨(some 19), (.mv (.tmp 17)), none⟩, 
              ⟨(some 20), (.idxSl 5 (.tmp 15) (.tmp 17)), none⟩, 
              ⟨(some 21), (.loadN 5 (.tmp 20)), none⟩, 
              ⟨(some 6), (.new 25 [(.int .i64 0), (.int .i64 0), (.string ⟨#[]⟩), (.slice none 0 0), (.slice none 0 0)]), none⟩, 
              ⟨(some 5), (.mv (.tmp 19)), none⟩, 
              ⟨none, (.storeN 5 (.tmp 6) (.tmp 21)), none⟩])
             (.seq (.seq (.ops [
                ⟨(some 22), (.loadN 5 (.tmp 6)), none⟩, 
                ⟨(some 23), (.callF 11 [(.tmp 22)]), none⟩, 
                ⟨(some 24), (.bin .neq (.tmp 23) (.const (.int .i64 0))), none⟩])
               (.cond (.tmp 24)
                (.seq (.ops [
                  ⟨(some 2), (.mv (.const (.bool false))), none⟩])
                 .ret)
                .skip))
              (.seq (.ops [
                ⟨(some 25), (.mv (.tmp 4)), none⟩, 
                ⟨(some 26), (.loadN 5 (.tmp 6)), none⟩, 
                ⟨(some 27), (.callF 17 [(.tmp 26)]), none⟩, 
                ⟨(some 28), (.bin .add (.tmp 25) (.tmp 27)), none⟩, 
                ⟨(some 4), (.mv (.tmp 28)), none⟩])
               (.seq (.ops [
                 ⟨(some 29), (.fieldAddr 0 (.tmp 1)), none⟩, 
                 ⟨(some 30), (.load1 (.tmp 29)), none⟩, 
                 ⟨(some 31), (.bin .eql (.tmp 30) (.const (.int .i64 6))), none⟩])
                (.cond (.tmp 31)
                 (.seq (.seq (.any [33, 34, 35, 36, 37, 38, 39, 32, 40, 41, 7, 8] [
                    ⟨(some 33), (.loadN 5 (.tmp 1)), none⟩, 
                    ⟨(some 34), (.fieldAddr 3 (.tmp 1)), none⟩, 
                    ⟨(some 35), (.load1 (.tmp 34)), none⟩, 
                    ⟨(some 36), (.mv (.tmp 5)), none⟩, 
                    ⟨(some 37), (.idxSl 1 (.tmp 35) (.tmp 36)), none⟩, 
                    ⟨(some 38), (.load1 (.tmp 37)), none⟩])
                   (.alt
                    (.any [33, 34, 35, 36, 37, 38, 39, 32, 40, 41, 7, 8] [
                     ⟨(some 39), (.callF 13 [(.tmp 33), (.tmp 38)]), none⟩, 
                     ⟨(some 32), (.mv (.tmp 39)), none⟩, 
                     ⟨(some 40), (.extract (.tmp 32) 0), none⟩, 
                     ⟨(some 41), (.extract (.tmp 32) 1), none⟩, 
                     ⟨(some 7), (.new 25 [(.int .i64 0), (.int .i64 0), (.string ⟨#[]⟩), (.slice none 0 0), (.slice none 0 0)]), none⟩, 
                     ⟨none, (.storeN 5 (.tmp 7) (.tmp 40)), none⟩, 
                     ⟨(some 8), (.mv (.tmp 41)), none⟩])
                    (.any [33, 34, 35, 36, 37, 38, 39, 32, 40, 41, 7, 8] [
                     ⟨(some 7), (.new 25 [(.int .i64 0), (.int .i64 0), (.string ⟨#[]⟩), (.slice none 0 0), (.slice none 0 0)]), none⟩, 
                     ⟨(some 39), (.callF 13 [(.tmp 33), (.tmp 38)]), none⟩, 
                     ⟨(some 32), (.mv (.tmp 39)), none⟩, 
                     ⟨(some 40), (.extract (.tmp 32) 0), none⟩, 
                     ⟨(some 41), (.extract (.tmp 32) 1), none⟩, 
                     ⟨none, (.storeN 5 (.tmp 7) (.tmp 40)), none⟩, 
                     ⟨(some 8), (.mv (.tmp 41)), none⟩])))
                  (.seq (.ops [
                    ⟨(some 42), (.mv (.tmp 8)), none⟩, 
                    ⟨(some 43), (.un .not (.tmp 42)), none⟩, 
                    ⟨(some 44), (.mv (.tmp 43)), none⟩, 
                    ⟨(some 45), (.loadN 5 (.tmp 6)), (some (44, false))⟩, 
                    ⟨(some 46), (.loadN 5 (.tmp 7)), (some (44, false))⟩, 
                    ⟨(some 47), (.callF 16 [(.tmp 45), (.tmp 46)]), (some (44, false))⟩, 
                    ⟨(some 48), (.un .not (.tmp 47)), (some (44, false))⟩, 
                    ⟨(some 49), (.pick (.tmp 44) (.const (.bool true)) (.tmp 48)), none⟩])
                   (.cond (.tmp 49)
                    (.seq (.ops [
                      ⟨(some 2), (.mv (.const (.bool false))), none⟩])
                     .ret)
                    .skip)))
                 .skip))))))
           (.ops [
            ⟨(some 50), (.bin .add (.tmp 17) (.const (.int .i64 1))), none⟩, 
            ⟨(some 17), (.mv (.tmp 50)), none⟩])))))))
     (.seq (.ops [
       ⟨(some 51), (.mv (.tmp 3)), none⟩, 
       ⟨(some 52), (.mv (.tmp 51)), none⟩, 
       ⟨(some 53), (.loadN 5 (.tmp 1)), (some (52, true))⟩, 
       ⟨(some 54), (.callF 17 [(.tmp 53)]), (some (52, true))⟩, 
       ⟨(some 55), (.mv (.tmp 4)), (some (52, true))⟩, 
       ⟨(some 56), (.bin .eql (.tmp 54) (.tmp 55)), (some (52, true))⟩, 
       ⟨(some 57), (.pick (.tmp 52) (.tmp 56) (.const (.bool false))), none⟩, 
       ⟨(some 2), (.mv (.tmp 57)), none⟩])
      .ret))))))
theorem c8 {args : Array Value} {h : Heap} {R : Ending → Heap → Prop} (ha : args.size ≤ 58) (hh : aexec Tryd.prog ac8 (abody [(.slot 2)] R) ⟨initFr args.toList, []⟩ h) : HCalls Tryd.prog 8 args h R :=
  hcalls_of Tryd.func8 rfl rfl (by kernel_rfl) (by kernel_rfl) ha hh
/-- 9: credenza/credenzalaw03.DataWraps -/
def ac9 : ACode :=
 (.seq (.ops [
  ⟨(some 1), (.box 25 (.tmp 0)), none⟩, 
  ⟨(some 2), (.mv (.const (.bool false))), none⟩])
 (.seq (.ops [
   ⟨(some 9), (.callF 10 []), none⟩, 
   ⟨(some 3), (.mv (.tmp 9)), none⟩])
  (.seq (.ops [
    ⟨(some 10), (.loadN 5 (.tmp 1)), none⟩, 
    ⟨(some 11), (.buildSlice 25 1 [(.int .i64 0), (.int .i64 0), (.string ⟨#[]⟩), (.slice none 0 0), (.slice none 0 0)] [(0, 5, (.tmp 10))]), none⟩, 
    ⟨(some 12), (.build [(.int .i64 0), (.int .i64 0), (.string ⟨#[]⟩), (.slice none 0 0), (.slice none 0 0)] [(0, 1, (.const (.int .i64 5))), (4, 1, (.tmp 11))]), none⟩, 
    ⟨(some 4), (.new 25 [(.int .i64 0), (.int .i64 0), (.string ⟨#[]⟩), (.slice none 0 0), (.slice none 0 0)]), none⟩, 
    ⟨none, (.storeN 5 (.tmp 4) (.tmp 12)), none⟩])
   (.seq (.ops [
     ⟨(some 14), (.loadN 5 (.tmp 1)), none⟩, 
     ⟨(some 15), (.callF 19 [(.tmp 14)]), none⟩, 
     ⟨(some 13), (.mv (.tmp 15)), none⟩, 
     ⟨(some 16), (.extract (.tmp 13) 0), none⟩, 
     ⟨(some 17), (.extract (.tmp 13) 1), none⟩, 
     ⟨(some 5), (.mv (.tmp 16)), none⟩, 
     ⟨(some 6), (.mv (.tmp 17)), none⟩])
    (.seq (.ops [
      ⟨(some 19), (.loadN 5 (.tmp 4)), none⟩, 
      ⟨(some 20), (.callF 19 [(.tmp 19)]), none⟩, 
      ⟨(some 18), (.mv (.tmp 20)), none⟩, 
      ⟨(some 21), (.extract (.tmp 18) 0), none⟩, 
      ⟨(some 22), (.extract (.tmp 18) 1), none⟩, 
      ⟨(some 7), (.mv (.tmp 21)), none⟩, 
      ⟨(some 8), (.mv (.tmp 22)), none⟩])
     (.seq (.seq (.seq (.any [23, 24, 25, 26, 27, 28, 29, 30, 31, 32, 33, 34, 35, 36] [
         ⟨(some 23), (.loadN 5 (.tmp 4)), none⟩])
        (.alt
         (.any [23, 24, 25, 26, 27, 28, 29, 30, 31, 32, 33, 34, 35, 36] [
          ⟨(some 24), (.callF 17 [(.tmp 23)]), none⟩, 
          ⟨(some 25), (.loadN 5 (.tmp 1)), none⟩, 
          ⟨(some 26), (.callF 17 [(.tmp 25)]), none⟩, 
          ⟨(some 27), (.bin .add (.tmp 26) (.const (.int .i64 1))), none⟩, 
          ⟨(some 28), (.bin .neq (.tmp 24) (.tmp 27)), none⟩, 
          ⟨(some 29), (.mv (.tmp 28)), none⟩, 
          ⟨(some 30), (.mv (.tmp 6)), (some (29, false))⟩, 
          ⟨(some 31), (.bin .neq (.tmp 30) (.const (.int .i64 0))), (some (29, false))⟩, 
          ⟨(some 32), (.mv (.tmp 31)), (some (29, false))⟩, 
          ⟨(some 33), (.mv (.tmp 8)), (some (32, true))⟩, 
          ⟨(some 34), (.bin .eql (.tmp 33) (.const (.int .i64 0))), (some (32, true))⟩, 
          ⟨(some 35), (.pick (.tmp 32) (.tmp 34) (.const (.bool false))), (some (29, false))⟩, 
          ⟨(some 36), (.pick (.tmp 29) (.const (.bool true)) (.tmp 35)), none⟩])
         (.any [23, 24, 25, 26, 27, 28, 29, 30, 31, 32, 33, 34, 35, 36] [
          ⟨(some 25), (.loadN 5 (.tmp 1)), none⟩, 
          ⟨(some 24), (.callF 17 [(.tmp 23)]), none⟩, 
          ⟨(some 26), (.callF 17 [(.tmp 25)]), none⟩, 
          ⟨(some 27), (.bin .add (.tmp 26) (.const (.int .i64 1))), none⟩, 
          ⟨(some 28), (.bin .neq (.tmp 24) (.tmp 27)), none⟩, 
          ⟨(some 29), (.mv (.tmp 28)), none⟩, 
          ⟨(some 30), (.mv (.tmp 6)), (some (29, false))⟩, 
          ⟨(some 31), (.bin .neq (.tmp 30) (.const (.int .i64 0))), (some (29, false))⟩, 
          ⟨(some 32), (.mv (.tmp 31)), (some (29, false))⟩, 
          ⟨(some 33), (.mv (.tmp 8)), (some (32, true))⟩, 
          ⟨(some 34), (.bin .eql (.tmp 33) (.const (.int .i64 0))), (some (32, true))⟩, 
          ⟨(some 35), (.pick (.tmp 32) (.tmp 34) (.const (.bool false))), (some (29, false))⟩, 
          ⟨(some 36), (.pick (.tmp 29) (.const (.bool true)) (.tmp 35)), none⟩])))
       (.cond (.tmp 36)
        (.seq (.ops [
          ⟨(some 2), (.mv (.const (.bool false))), none⟩])
         .ret)
        .skip))
      (.seq (.seq (.ops [
         ⟨(some 37), (.mv (.tmp 6)), none⟩, 
         ⟨(some 38), (.bin .neq (.tmp 37) (.const (.int .i64 0))), none⟩])
        (.cond (.tmp 38)
         (.seq (.ops [
           ⟨(some 39), (.mv (.tmp 3)), none⟩, 
           ⟨(some 40), (.mv (.tmp 39)), none⟩, 
           ⟨(some 41), (.loadN 5 (.tmp 4)), (some (40, true))⟩, 
           ⟨(some 42), (.callF 11 [(.tmp 41)]), (some (40, true))⟩, 
           ⟨(some 43), (.mv (.tmp 6)), (some (40, true))⟩, 
           ⟨(some 44), (.bin .eql (.tmp 42) (.tmp 43)), (some (40, true))⟩, 
           ⟨(some 45), (.pick (.tmp 40) (.tmp 44) (.const (.bool false))), none⟩, 
           ⟨(some 2), (.mv (.tmp 45)), none⟩])
          .ret)
         .skip))
       (.seq (.ops [
         ⟨(some 46), (.mv (.tmp 3)), none⟩, 
         ⟨(some 47), (.mv (.tmp 46)), none⟩, 
         ⟨(some 48), (.mv (.tmp 8)), (some (47, true))⟩, 
         ⟨(some 49), (.bin .eql (.tmp 48) (.const (.int .i64 0))), (some (47, true))⟩, 
         ⟨(some 50), (.mv (.tmp 49)), (some (47, true))⟩, 
         ⟨(some 51), (.mv (.tmp 7)), (some (50, true))⟩, 
         ⟨(some 52), (.mv (.tmp 5)), (some (50, true))⟩, 
         ⟨(some 53), (.bin .add (.const (.string ⟨#[91]⟩)) (.tmp 52)), (some (50, true))⟩, 
         ⟨(some 54), (.bin .add (.tmp 53) (.const (.string ⟨#[93]⟩))), (some (50, true))⟩, 
         ⟨(some 55), (.bin .eql (.tmp 51) (.tmp 54)), (some (50, true))⟩, 
         ⟨(some 56), (.pick (.tmp 50) (.tmp 55) (.const (.bool false))), (some (47, true))⟩, 
         ⟨(some 57), (.mv (.tmp 56)), (some (47, true))⟩, 
         ⟨(some 58), (.mv (.tmp 8)), (some (57, false))⟩, 
         ⟨(some 59), (.bin .eql (.tmp 58) (.const (.int .i64 31))), (some (57, false))⟩, 
         ⟨(some 60), (.pick (.tmp 57) (.const (.bool true)) (.tmp 59)), (some (47, true))⟩, 
         ⟨(some 61), (.pick (.tmp 47) (.tmp 60) (.const (.bool false))), none⟩, 
         ⟨(some 2), (.mv (.tmp 61)), none⟩])
        .ret))))))))
theorem c9 {args : Array Value} {h : Heap} {R : Ending → Heap → Prop} (ha : args.size ≤ 62) (hh : aexec Tryd.prog ac9 (abody [(.slot 2)] R) ⟨initFr args.toList, []⟩ h) : HCalls Tryd.prog 9 args h R :=
  hcalls_of Tryd.func9 rfl rfl (by kernel_rfl) (by kernel_rfl) ha hh
/-- 10: credenza/credenzalaw03.live -/
def ac10 : ACode :=
 (.seq (.ops [
  ⟨(some 0), (.mv (.const (.bool false))), none⟩])
 (.seq (.ops [
   ⟨(some 6), (.callF 23 []), none⟩, 
   ⟨(some 7), (.callF 19 [(.tmp 6)]), none⟩, 
   ⟨(some 5), (.mv (.tmp 7)), none⟩, 
   ⟨(some 8), (.extract (.tmp 5) 0), none⟩, 
   ⟨(some 9), (.extract (.tmp 5) 1), none⟩, 
   ⟨(some 1), (.mv (.tmp 8)), none⟩, 
   ⟨(some 2), (.mv (.tmp 9)), none⟩])
  (.seq (.ops [
    ⟨(some 11), (.callF 23 []), none⟩, 
    ⟨(some 12), (.callF 13 [(.tmp 11), (.const (.string ⟨#[0, 97]⟩))]), none⟩, 
    ⟨(some 10), (.mv (.tmp 12)), none⟩, 
    ⟨(some 13), (.extract (.tmp 10) 0), none⟩, 
    ⟨(some 14), (.extract (.tmp 10) 1), none⟩, 
    ⟨(some 3), (.new 25 [(.int .i64 0), (.int .i64 0), (.string ⟨#[]⟩), (.slice none 0 0), (.slice none 0 0)]), none⟩, 
    ⟨none, (.storeN 5 (.tmp 3) (.tmp 13)), none⟩, 
    ⟨(some 4), (.mv (.tmp 14)), none⟩])
   (.seq (.ops [
     ⟨(some 15), (.mv (.tmp 1)), none⟩, 
     ⟨(some 16), (.bin .eql (.tmp 15) (.const (.string ⟨#[123, 34, 97, 34, 58, 49, 44, 34, 98, 34, 58, 91, 110, 117, 108, 108, 44, 34, 120, 34, 93, 125]⟩))), none⟩, 
     ⟨(some 17), (.mv (.tmp 16)), none⟩, 
     ⟨(some 18), (.mv (.tmp 2)), (some (17, true))⟩, 
     ⟨(some 19), (.bin .eql (.tmp 18) (.const (.int .i64 0))), (some (17, true))⟩, 
     ⟨(some 20), (.pick (.tmp 17) (.tmp 19) (.const (.bool false))), none⟩, 
     ⟨(some 21), (.mv (.tmp 20)), none⟩, 
     ⟨(some 22), (.callF 23 []), (some (21, true))⟩, 
     ⟨(some 23), (.callF 17 [(.tmp 22)]), (some (21, true))⟩, 
     ⟨(some 24), (.bin .eql (.tmp 23) (.const (.int .i64 5))), (some (21, true))⟩, 
     ⟨(some 25), (.pick (.tmp 21) (.tmp 24) (.const (.bool false))), none⟩, 
     ⟨(some 26), (.mv (.tmp 25)), none⟩, 
     ⟨(some 27), (.mv (.tmp 4)), (some (26, true))⟩, 
     ⟨(some 28), (.pick (.tmp 26) (.tmp 27) (.const (.bool false))), none⟩, 
     ⟨(some 29), (.mv (.tmp 28)), none⟩, 
     ⟨(some 30), (.fieldAddr 1 (.tmp 3)), (some (29, true))⟩, 
     ⟨(some 31), (.load1 (.tmp 30)), (some (29, true))⟩, 
     ⟨(some 32), (.bin .eql (.tmp 31) (.const (.int .i64 1))), (some (29, true))⟩, 
     ⟨(some 33), (.pick (.tmp 29) (.tmp 32) (.const (.bool false))), none⟩, 
     ⟨(some 34), (.mv (.tmp 33)), none⟩, 
     ⟨(some 35), (.build [(.int .i64 0), (.int .i64 0), (.string ⟨#[]⟩), (.slice none 0 0), (.slice none 0 0)] [(0, 1, (.const (.int .i64 9)))]), (some (34, true))⟩, 
     ⟨(some 36), (.callF 11 [(.tmp 35)]), (some (34, true))⟩, 
     ⟨(some 37), (.bin .eql (.tmp 36) (.const (.int .i64 30))), (some (34, true))⟩, 
     ⟨(some 38), (.pick (.tmp 34) (.tmp 37) (.const (.bool false))), none⟩, 
     ⟨(some 39), (.mv (.tmp 38)), none⟩, 
     ⟨(some 40), (.callF 23 []), (some (39, true))⟩, 
     ⟨(some 41), (.callF 23 []), (some (39, true))⟩, 
     ⟨(some 42), (.callF 15 [(.tmp 40), (.tmp 41)]), (some (39, true))⟩, 
     ⟨(some 43), (.pick (.tmp 39) (.tmp 42) (.const (.bool false))), none⟩, 
     ⟨(some 0), (.mv (.tmp 43)), none⟩])
    .ret))))
theorem c10 {args : Array Value} {h : Heap} {R : Ending → Heap → Prop} (ha : args.size ≤ 44) (hh : aexec Tryd.prog ac10 (abody [(.slot 0)] R) ⟨initFr args.toList, []⟩ h) : HCalls Tryd.prog 10 args h R :=
  hcalls_of Tryd.func10 rfl rfl (by kernel_rfl) (by kernel_rfl) ha hh
/-- 11: credenza/data.Check -/
def ac11 : ACode :=
 (.seq (.ops [
  ⟨(some 1), (.box 25 (.tmp 0)), none⟩, 
  ⟨(some 2), (.mv (.const (.int .i64 0))), none⟩])
 (.seq (.seq (.ops [
    ⟨(some 4), (.loadN 5 (.tmp 1)), none⟩, 
    ⟨(some 5), (.callF 24 [(.tmp 4)]), none⟩, 
    ⟨(some 3), (.mv (.tmp 5)), none⟩])
   (.block 0
    (.seq (.ops [
      ⟨(some 7), (.mv (.tmp 3)), none⟩, 
      ⟨(some 8), (.bin .eql (.tmp 7) (.const (.int .i64 0))), none⟩, 
      ⟨(some 6), (.mv (.tmp 8)), none⟩])
     (.cond (.tmp 6)
      (.seq (.ops [
        ⟨(some 2), (.mv (.const (.int .i64 30))), none⟩])
       .ret)
      (.seq (.ops [
        ⟨(some 10), (.mv (.tmp 3)), none⟩, 
        ⟨(some 11), (.bin .gtr (.tmp 10) (.const (.int .i64 20))), none⟩, 
        ⟨(some 9), (.mv (.tmp 11)), none⟩])
       (.cond (.tmp 9)
        (.seq (.ops [
          ⟨(some 2), (.mv (.const (.int .i64 31))), none⟩])
         .ret)
        .skip))))))
  (.seq (.ops [
    ⟨(some 2), (.mv (.const (.int .i64 0))), none⟩])
   .ret)))
theorem c11 {args : Array Value} {h : Heap} {R : Ending → Heap → Prop} (ha : args.size ≤ 12) (hh : aexec Tryd.prog ac11 (abody [(.slot 2)] R) ⟨initFr args.toList, []⟩ h) : HCalls Tryd.prog 11 args h R :=
  hcalls_of Tryd.func11 rfl rfl (by kernel_rfl) (by kernel_rfl) ha hh
/-- 12: credenza/credenzaref03.Check -/
def ac12 : ACode :=
 (.seq (.ops [
  ⟨(some 1), (.box 25 (.tmp 0)), none⟩, 
  ⟨(some 2), (.mv (.const (.int .i64 0))), none⟩])
 (.seq (.seq (.ops [
    ⟨(some 3), (.loadN 5 (.tmp 1)), none⟩, 
    ⟨(some 4), (.callF 25 [(.tmp 3)]), none⟩, 
    ⟨(some 5), (.un .not (.tmp 4)), none⟩])
   (.cond (.tmp 5)
    (.seq (.ops [
      ⟨(some 2), (.mv (.const (.int .i64 30))), none⟩])
     .ret)
    .skip))
  (.seq (.seq (.ops [
     ⟨(some 6), (.loadN 5 (.tmp 1)), none⟩, 
     ⟨(some 7), (.callF 26 [(.tmp 6)]), none⟩, 
     ⟨(some 8), (.bin .gtr (.tmp 7) (.const (.int .i64 20))), none⟩])
    (.cond (.tmp 8)
     (.seq (.ops [
       ⟨(some 2), (.mv (.const (.int .i64 31))), none⟩])
      .ret)
     .skip))
   (.seq (.ops [
     ⟨(some 2), (.mv (.const (.int .i64 0))), none⟩])
    .ret))))
theorem c12 {args : Array Value} {h : Heap} {R : Ending → Heap → Prop} (ha : args.size ≤ 9) (hh : aexec Tryd.prog ac12 (abody [(.slot 2)] R) ⟨initFr args.toList, []⟩ h) : HCalls Tryd.prog 12 args h R :=
  hcalls_of Tryd.func12 rfl rfl (by kernel_rfl) (by kernel_rfl) ha hh
/-- 13: credenza/data.Get -/
def ac13 : ACode :=
 (.seq (.ops [
  ⟨(some 2), (.box 25 (.tmp 0)), none⟩, 
  ⟨(some 4), (.new 25 [(.int .i64 0), (.int .i64 0), (.string ⟨#[]⟩), (.slice none 0 0), (.slice none 0 0)]), none⟩, 
  ⟨(some 5), (.mv (.const (.bool false))), none⟩])
 (.seq (.ops [
   ⟨(some 7), (.fieldAddr 3 (.tmp 2)), none⟩, 
   ⟨(some 8), (.load1 (.tmp 7)), none⟩, 
   ⟨(some 9), (.mv (.tmp 1)), none⟩, 
   ⟨(some 10), (.callF 27 [(.tmp 8), (.tmp 9)]), none⟩, 
   ⟨(some 6), (.mv (.tmp 10)), none⟩])
  (.seq (.seq (.ops [
     ⟨(some 11), (.mv (.tmp 6)), none⟩, 
     ⟨(some 12), (.bin .lss (.tmp 11) (.const (.int .i64 0))), none⟩, 
     ⟨(some 13), (.mv (.tmp 12)), none⟩, 
     ⟨(some 14), (.mv (.tmp 6)), (some (13, false))⟩, 
     ⟨(some 15), (.fieldAddr 4 (.tmp 2)), (some (13, false))⟩, 
     ⟨(some 16), (.load1 (.tmp 15)), (some (13, false))⟩, 
     ⟨(some 17), (.lenSl (.tmp 16)), (some (13, false))⟩, 
     ⟨(some 18), (.bin .geq (.tmp 14) (.tmp 17)), (some (13, false))⟩, 
     ⟨(some 19), (.pick (.tmp 13) (.const (.bool true)) (.tmp 18)), none⟩])
    (.cond (.tmp 19)
     (.seq (.ops [
       ⟨(some 20), (.build [(.int .i64 0), (.int .i64 0), (.string ⟨#[]⟩), (.slice none 0 0), (.slice none 0 0)] []), none⟩, 
       ⟨none, (.storeN 5 (.tmp 4) (.tmp 20)), none⟩, 
       ⟨(some 5), (.mv (.const (.bool false))), none⟩])
      .ret)
     .skip))
   (.seq (.ops [
     ⟨(some 21), (.fieldAddr 4 (.tmp 2)), none⟩, 
     ⟨(some 22), (.load1 (.tmp 21)), none⟩, 
     ⟨(some 23), (.mv (.tmp 6)), none⟩, 
     ⟨(some 24), (.idxSl 5 (.tmp 22) (.tmp 23)), none⟩, 
     ⟨(some 25), (.loadN 5 (.tmp 24)), none⟩, 
     ⟨(some 26), (.callF 21 [(.tmp 25)]), none⟩, 
     ⟨none, (.storeN 5 (.tmp 4) (.tmp 26)), none⟩, 
     ⟨(some 5), (.mv (.const (.bool true))), none⟩])
    .ret))))
theorem c13 {args : Array Value} {h : Heap} {R : Ending → Heap → Prop} (ha : args.size ≤ 27) (hh : aexec Tryd.prog ac13 (abody [(.cellN 4 5), (.slot 5)] R) ⟨initFr args.toList, []⟩ h) : HCalls Tryd.prog 13 args h R :=
  hcalls_of Tryd.func13 rfl rfl (by kernel_rfl) (by kernel_rfl) ha hh
/-- 14: credenza/credenzaref03.Get -/
def ac14 : ACode :=
 (.seq (.ops [
  ⟨(some 2), (.box 25 (.tmp 0)), none⟩, 
  ⟨(some 4), (.new 25 [(.int .i64 0), (.int .i64 0), (.string ⟨#[]⟩), (.slice none 0 0), (.slice none 0 0)]), none⟩, 
  ⟨(some 5), (.mv (.const (.bool false))), none⟩])
 (.seq (.seq (.ops [
    ⟨(some 8), (.fieldAddr 3 (.tmp 2)), none⟩, 
    ⟨(some 9), (.load1 (.tmp 8)), none⟩, 
    ⟨(some 10), (.lenSl (.tmp 9)), none⟩, 
    ⟨(some 11), (.mv (.const (.int .i64 0))), none⟩])
   (.block 0
    (.loop
     (.seq (.ops [
       ⟨(some 12), (.bin .lss (.tmp 11) (.tmp 10)), none⟩])
      (.seq (.cond (.tmp 12)
        .skip
        (.exit 0))
       (.seq (.block 1
         (.seq (.ops [
           ⟨(some 13), (.mv (.tmp 11)), none⟩, 
           ⟨(some 14), (.idxSl 1 (.tmp 9) (.tmp 11)), none⟩, 
           ⟨(some 15), (.load1 (.tmp 14)), none⟩, 
           ⟨(some 6), (.mv (.tmp 13)), none⟩, 
           ⟨(some 7), (.mv (.tmp 15)), none⟩])
          (.seq (.ops [
            ⟨(some 16), (.mv (.tmp 7)), none⟩, 
            ⟨(some 17), (.mv (.tmp 1)), none⟩, 
            ⟨(some 18), (.bin .eql (.tmp 16) (.tmp 17)), none⟩])
           (.cond (.tmp 18)
            (.seq (.seq (.ops [
               ⟨(some 19), (.mv (.tmp 6)), none⟩, 
               ⟨(some 20), (.fieldAddr 4 (.tmp 2)), none⟩, 
               ⟨(some 21), (.load1 (.tmp 20)), none⟩, 
               ⟨(some 22), (.lenSl (.tmp 21)), none⟩, 
               ⟨(some 23), (.bin .lss (.tmp 19) (.tmp 22)), none⟩])
              (.cond (.tmp 23)
               (.seq (.ops [
                 ⟨(some 24), (.fieldAddr 4 (.tmp 2)), none⟩, 
                 ⟨(some 25), (.load1 (.tmp 24)), none⟩, 
                 ⟨(some 26), (.mv (.tmp 6)), none⟩, 
                 ⟨(some 27), (.idxSl 5 (.tmp 25) (.tmp 26)), none⟩, 
                 ⟨(some 28), (.loadN 5 (.tmp 27)), none⟩, 
                 ⟨(some 29), (.callF 28 [(.tmp 28)]), none⟩, 
                 ⟨none, (.storeN 5 (.tmp 4) (.tmp 29)), none⟩, 
                 ⟨(some 5), (.mv (.const (.bool true))), none⟩])
                .ret)
               .skip))
             (.seq (.ops [
               ⟨(some 30), (.build [(.int .i64 0), (.int .i64 0), (.string ⟨#[]⟩), (.slice none 0 0), (.slice none 0 0)] []), none⟩, 
               ⟨none, (.storeN 5 (.tmp 4) (.tmp 30)), none⟩, 
               ⟨(some 5), (.mv (.const (.bool false))), none⟩])
              .ret))
            .skip))))
        (.ops [
         ⟨(some 31), (.bin .add (.tmp 11) (.const (.int .i64 1))), none⟩, 
         ⟨(some 11), (.mv (.tmp 31)), none⟩])))))))
  (.seq (.ops [
    ⟨(some 32), (.build [(.int .i64 0), (.int .i64 0), (.string ⟨#[]⟩), (.slice none 0 0), (.slice none 0 0)] []), none⟩, 
    ⟨none, (.storeN 5 (.tmp 4) (.tmp 32)), none⟩, 
    ⟨(some 5), (.mv (.const (.bool false))), none⟩])
   .ret)))
theorem c14 {args : Array Value} {h : Heap} {R : Ending → Heap → Prop} (ha : args.size ≤ 33) (hh : aexec Tryd.prog ac14 (abody [(.cellN 4 5), (.slot 5)] R) ⟨initFr args.toList, []⟩ h) : HCalls Tryd.prog 14 args h R :=
  hcalls_of Tryd.func14 rfl rfl (by kernel_rfl) (by kernel_rfl) ha hh
/-- 15: credenza/data.Same -/
def ac15 : ACode :=
 (.seq (.ops [
  ⟨(some 2), (.box 25 (.tmp 0)), none⟩, 
  ⟨(some 3), (.box 25 (.tmp 1)), none⟩, 
  ⟨(some 4), (.mv (.const (.bool false))), none⟩])
 (.seq (.ops [
   ⟨(some 5), (.fieldAddr 0 (.tmp 2)), none⟩, 
   ⟨(some 6), (.load1 (.tmp 5)), none⟩, 
   ⟨(some 7), (.fieldAddr 0 (.tmp 3)), none⟩, 
   ⟨(some 8), (.load1 (.tmp 7)), none⟩, 
   ⟨(some 9), (.bin .eql (.tmp 6) (.tmp 8)), none⟩, 
   ⟨(some 10), (.mv (.tmp 9)), none⟩, 
   ⟨(some 11), (.fieldAddr 1 (.tmp 2)), (some (10, true))⟩, 
   ⟨(some 12), (.load1 (.tmp 11)), (some (10, true))⟩, 
   ⟨(some 13), (.fieldAddr 1 (.tmp 3)), (some (10, true))⟩, 
   ⟨(some 14), (.load1 (.tmp 13)), (some (10, true))⟩, 
   ⟨(some 15), (.bin .eql (.tmp 12) (.tmp 14)), (some (10, true))⟩, 
   ⟨(some 16), (.pick (.tmp 10) (.tmp 15) (.const (.bool false))), none⟩, 
   ⟨(some 17), (.mv (.tmp 16)), none⟩, 
   ⟨(some 18), (.fieldAddr 2 (.tmp 2)), (some (17, true))⟩, 
   ⟨(some 19), (.load1 (.tmp 18)), (some (17, true))⟩, 
   ⟨(some 20), (.fieldAddr 2 (.tmp 3)), (some (17, true))⟩, 
   ⟨(some 21), (.load1 (.tmp 20)), (some (17, true))⟩, 
   ⟨(some 22), (.bin .eql (.tmp 19) (.tmp 21)), (some (17, true))⟩, 
   ⟨(some 23), (.pick (.tmp 17) (.tmp 22) (.const (.bool false))), none⟩, 
   ⟨(some 24), (.mv (.tmp 23)), none⟩, 
   ⟨(some 25), (.fieldAddr 3 (.tmp 2)), (some (24, true))⟩, 
   ⟨(some 26), (.load1 (.tmp 25)), (some (24, true))⟩, 
   ⟨(some 27), (.fieldAddr 3 (.tmp 3)), (some (24, true))⟩, 
   ⟨(some 28), (.load1 (.tmp 27)), (some (24, true))⟩, 
   ⟨(some 29), (.callF 29 [(.tmp 26), (.tmp 28)]), (some (24, true))⟩, 
   ⟨(some 30), (.pick (.tmp 24) (.tmp 29) (.const (.bool false))), none⟩, 
   ⟨(some 31), (.mv (.tmp 30)), none⟩, 
   ⟨(some 32), (.fieldAddr 4 (.tmp 2)), (some (31, true))⟩, 
   ⟨(some 33), (.load1 (.tmp 32)), (some (31, true))⟩, 
   ⟨(some 34), (.fieldAddr 4 (.tmp 3)), (some (31, true))⟩, 
   ⟨(some 35), (.load1 (.tmp 34)), (some (31, true))⟩, 
   ⟨(some 36), (.callF 30 [(.tmp 33), (.tmp 35), (.func 15)]), (some (31, true))⟩, 
   ⟨(some 37), (.pick (.tmp 31) (.tmp 36) (.const (.bool false))), none⟩, 
   ⟨(some 4), (.mv (.tmp 37)), none⟩])
  .ret))
theorem c15 {args : Array Value} {h : Heap} {R : Ending → Heap → Prop} (ha : args.size ≤ 38) (hh : aexec Tryd.prog ac15 (abody [(.slot 4)] R) ⟨initFr args.toList, []⟩ h) : HCalls Tryd.prog 15 args h R :=
  hcalls_of Tryd.func15 rfl rfl (by kernel_rfl) (by kernel_rfl) ha hh
/-- 16: credenza/credenzaref03.Same -/
def ac16 : ACode :=
 (.seq (.ops [
  ⟨(some 2), (.box 25 (.tmp 0)), none⟩, 
  ⟨(some 3), (.box 25 (.tmp 1)), none⟩, 
  ⟨(some 4), (.mv (.const (.bool false))), none⟩])
 (.seq (.seq (.ops [
    ⟨(some 7), (.fieldAddr 0 (.tmp 2)), none⟩, 
    ⟨(some 8), (.load1 (.tmp 7)), none⟩, 
    ⟨(some 9), (.fieldAddr 0 (.tmp 3)), none⟩, 
    ⟨(some 10), (.load1 (.tmp 9)), none⟩, 
    ⟨(some 11), (.bin .neq (.tmp 8) (.tmp 10)), none⟩, 
    ⟨(some 12), (.mv (.tmp 11)), none⟩, 
    ⟨(some 13), (.fieldAddr 1 (.tmp 2)), (some (12, false))⟩, 
    ⟨(some 14), (.load1 (.tmp 13)), (some (12, false))⟩, 
    ⟨(some 15), (.fieldAddr 1 (.tmp 3)), (some (12, false))⟩, 
    ⟨(some 16), (.load1 (.tmp 15)), (some (12, false))⟩, 
    ⟨(some 17), (.bin .neq (.tmp 14) (.tmp 16)), (some (12, false))⟩, 
    ⟨(some 18), (.pick (.tmp 12) (.const (.bool true)) (.tmp 17)), none⟩, 
    ⟨(some 19), (.mv (.tmp 18)), none⟩, 
    ⟨(some 20), (.fieldAddr 2 (.tmp 2)), (some (19, false))⟩, 
    ⟨(some 21), (.load1 (.tmp 20)), (some (19, false))⟩, 
    ⟨(some 22), (.fieldAddr 2 (.tmp 3)), (some (19, false))⟩, 
    ⟨(some 23), (.load1 (.tmp 22)), (some (19, false))⟩, 
    ⟨(some 24), (.bin .neq (.tmp 21) (.tmp 23)), (some (19, false))⟩, 
    ⟨(some 25), (.pick (.tmp 19) (.const (.bool true)) (.tmp 24)), none⟩, 
    ⟨(some 26), (.mv (.tmp 25)), none⟩, 
    ⟨(some 27), (.fieldAddr 3 (.tmp 2)), (some (26, false))⟩, 
    ⟨(some 28), (.load1 (.tmp 27)), (some (26, false))⟩, 
    ⟨(some 29), (.lenSl (.tmp 28)), (some (26, false))⟩, 
    ⟨(some 30), (.fieldAddr 3 (.tmp 3)), (some (26, false))⟩, 
    ⟨(some 31), (.load1 (.tmp 30)), (some (26, false))⟩, 
    ⟨(some 32), (.lenSl (.tmp 31)), (some (26, false))⟩, 
    ⟨(some 33), (.bin .neq (.tmp 29) (.tmp 32)), (some (26, false))⟩, 
    ⟨(some 34), (.pick (.tmp 26) (.const (.bool true)) (.tmp 33)), none⟩, 
    ⟨(some 35), (.mv (.tmp 34)), none⟩, 
    ⟨(some 36), (.fieldAddr 4 (.tmp 2)), (some (35, false))⟩, 
    ⟨(some 37), (.load1 (.tmp 36)), (some (35, false))⟩, 
    ⟨(some 38), (.lenSl (.tmp 37)), (some (35, false))⟩, 
    ⟨(some 39), (.fieldAddr 4 (.tmp 3)), (some (35, false))⟩, 
    ⟨(some 40), (.load1 (.tmp 39)), (some (35, false))⟩, 
    ⟨(some 41), (.lenSl (.tmp 40)), (some (35, false))⟩, 
    ⟨(some 42), (.bin .neq (.tmp 38) (.tmp 41)), (some (35, false))⟩, 
    ⟨(some 43), (.pick (.tmp 35) (.const (.bool true)) (.tmp 42)), none⟩])
   (.cond (.tmp 43)
    (.seq (.ops [
      ⟨(some 4), (.mv (.const (.bool false))), none⟩])
     .ret)
    .skip))
  (.seq (.seq (.ops [
     ⟨(some 44), (.fieldAddr 3 (.tmp 2)), none⟩, 
     ⟨(some 45), (.load1 (.tmp 44)), none⟩, 
     ⟨(some 46), (.lenSl (.tmp 45)), none⟩, 
     ⟨(some 47), (.mv (.const (.int .i64 0))), none⟩])
    (.block 0
     (.loop
      (.seq (.ops [
        ⟨(some 48), (.bin .lss (.tmp 47) (.tmp 46)), none⟩])
       (.seq (.cond (.tmp 48)
         .skip
         (.exit 0))
        (.seq (.block 1
          (.seq (.ops [
            ⟨(some 49), (.mv (.tmp 47)), none⟩, 
            ⟨(some 5), (.mv (.tmp 49)), none⟩])
           (.seq (.any [50, 51, 52, 53, 54, 55, 56, 57, 58, 59, 60] [
             ⟨(some 50), (.fieldAddr 3 (.tmp 2)), none⟩, 
             ⟨(some 51), (.load1 (.tmp 50)), none⟩, 
             ⟨(some 52), (.mv (.tmp 5)), none⟩, 
             ⟨(some 53), (.idxSl 1 (.tmp 51) (.tmp 52)), none⟩, 
             ⟨(some 54), (.load1 (.tmp 53)), none⟩, 
             ⟨(some 55), (.fieldAddr 3 (.tmp 3)), none⟩, 
             ⟨(some 56), (.load1 (.tmp 55)), none⟩, 
             ⟨(some 57), (.mv (.tmp 5)), none⟩, 
             ⟨(some 58), (.idxSl 1 (.tmp 56) (.tmp 57)), none⟩, 
             ⟨(some 59), (.load1 (.tmp 58)), none⟩, 
             ⟨(some 60), (.bin .neq (.tmp 54) (.tmp 59)), none⟩])
            (.cond (.tmp 60)
             (.seq (.ops [
               ⟨(some 4), (.mv (.const (.bool false))), none⟩])
              .ret)
             .skip))))
         (.ops [
          ⟨(some 61), (.bin .add (.tmp 47) (.const (.int .i64 1))), none⟩, 
          ⟨(some 47), (.mv (.tmp 61)), none⟩])))))))
   (.seq (.seq (.ops [
      ⟨(some 62), (.fieldAddr 4 (.tmp 2)), none⟩, 
      ⟨(some 63), (.load1 (.tmp 62)), none⟩, 
      ⟨(some 64), (.lenSl (.tmp 63)), none⟩, 
      ⟨(some 65), (.mv (.const (.int .i64 0))), none⟩])
     (.block 2
      (.loop
       (.seq (.ops [
         ⟨(some 66), (.bin .lss (.tmp 65) (.tmp 64)), none⟩])
        (.seq (.cond (.tmp 66)
          .skip
          (.exit 2))
         (.seq (.block 3
           (.seq (.ops [
             ⟨(some 67), (.mv (.tmp 65)), none⟩, 
             ⟨(some 6), (.mv (.tmp 67)), none⟩])
            (.seq (.any [68, 69, 70, 71, 72, 73, 74, 75, 76, 77, 78, 79] [
              ⟨(some 68), (.fieldAddr 4 (.tmp 2)), none⟩, 
              ⟨(some 69), (.load1 (.tmp 68)), none⟩, 
              ⟨(some 70), (.mv (.tmp 6)), none⟩, 
              ⟨(some 71), (.idxSl 5 (.tmp 69) (.tmp 70)), none⟩, 
              ⟨(some 72), (.loadN 5 (.tmp 71)), none⟩, 
              ⟨(some 73), (.fieldAddr 4 (.tmp 3)), none⟩, 
              ⟨(some 74), (.load1 (.tmp 73)), none⟩, 
              ⟨(some 75), (.mv (.tmp 6)), none⟩, 
              ⟨(some 76), (.idxSl 5 (.tmp 74) (.tmp 75)), none⟩, 
              ⟨(some 77), (.loadN 5 (.tmp 76)), none⟩, 
              ⟨(some 78), (.callF 16 [(.tmp 72), (.tmp 77)]), none⟩, 
              ⟨(some 79), (.un .not (.tmp 78)), none⟩])
             (.cond (.tmp 79)
              (.seq (.ops [
                ⟨(some 4), (.mv (.const (.bool false))), none⟩])
               .ret)
              .skip))))
          (.ops [
           ⟨(some 80), (.bin .add (.tmp 65) (.const (.int .i64 1))), none⟩, 
           ⟨(some 65), (.mv (.tmp 80)), none⟩])))))))
    (.seq (.ops [
      ⟨(some 4), (.mv (.const (.bool true))), none⟩])
     .ret)))))
theorem c16 {args : Array Value} {h : Heap} {R : Ending → Heap → Prop} (ha : args.size ≤ 81) (hh : aexec Tryd.prog ac16 (abody [(.slot 4)] R) ⟨initFr args.toList, []⟩ h) : HCalls Tryd.prog 16 args h R :=
  hcalls_of Tryd.func16 rfl rfl (by kernel_rfl) (by kernel_rfl) ha hh
/-- 17: credenza/data.Size -/
def ac17 : ACode :=
 (.seq (.ops [
  ⟨(some 1), (.box 25 (.tmp 0)), none⟩, 
  ⟨(some 2), (.mv (.const (.int .i64 0))), none⟩])
 (.seq (.ops [
   ⟨(some 3), (.mv (.const (.int .i64 1))), none⟩])
  (.seq (.seq (.ops [
     ⟨(some 6), (.fieldAddr 4 (.tmp 1)), none⟩, 
     ⟨(some 7), (.load1 (.tmp 6)), none⟩, 
     ⟨(some 8), (.lenSl (.tmp 7)), none⟩, 
     ⟨(some 9), (.mv (.const (.int .i64 0))), none⟩])
    (.block 0
     (.loop
      (.seq (.ops [
        ⟨(some 10), (.bin .lss (.tmp 9) (.tmp 8)), none⟩])
       (.seq (.cond (.tmp 10)
         .skip
         (.exit 0))
        (.seq (.block 1
          (.seq (.ops [
            ⟨(some 11), (.idxSl 5 (.tmp 7) (.tmp 9)), none⟩, 
            ⟨(some 12), (.loadN 5 (.tmp 11)), none⟩, 
            ⟨(some 5), (.new 25 [(.int .i64 0), (.int .i64 0), (.string ⟨#[]⟩), (.slice none 0 0), (.slice none 0 0)]), none⟩, 
            ⟨none, (.storeN 5 (.tmp 5) (.tmp 12)), none⟩])
           (.ops [
            ⟨(some 13), (.mv (.tmp 3)), none⟩, 
            ⟨(some 14), (.loadN 5 (.tmp 5)), none⟩, 
            ⟨(some 15), (.callF 17 [(.tmp 14)]), none⟩, 
            ⟨(some 16), (.bin .add (.tmp 13) (.tmp 15)), none⟩, 
            ⟨(some 3), (.mv (.tmp 16)), none⟩])))
         (.ops [
          ⟨(some 17), (.bin .add (.tmp 9) (.const (.int .i64 1))), none⟩, 
          ⟨(some 9), (.mv (.tmp 17)), none⟩])))))))
   (.seq (.ops [
     ⟨(some 18), (.mv (.tmp 3)), none⟩, 
     ⟨(some 2), (.mv (.tmp 18)), none⟩])
    .ret))))
theorem c17 {args : Array Value} {h : Heap} {R : Ending → Heap → Prop} (ha : args.size ≤ 19) (hh : aexec Tryd.prog ac17 (abody [(.slot 2)] R) ⟨initFr args.toList, []⟩ h) : HCalls Tryd.prog 17 args h R :=
  hcalls_of Tryd.func17 rfl rfl (by kernel_rfl) (by kernel_rfl) ha hh
/-- 18: credenza/credenzaref03.Size -/
def ac18 : ACode :=
 (.seq (.ops [
  ⟨(some 1), (.box 25 (.tmp 0)), none⟩, 
  ⟨(some 2), (.mv (.const (.int .i64 0))), none⟩])
 (.seq (.ops [
   ⟨(some 3), (.mv (.const (.int .i64 1))), none⟩])
  (.seq (.seq (.ops [
     ⟨(some 6), (.fieldAddr 4 (.tmp 1)), none⟩, 
     ⟨(some 7), (.load1 (.tmp 6)), none⟩, 
     ⟨(some 8), (.lenSl (.tmp 7)), none⟩, 
     ⟨(some 9), (.mv (.const (.int .i64 0))), none⟩])
    (.block 0
     (.loop
      (.seq (.ops [
        ⟨(some 10), (.bin .lss (.tmp 9) (.tmp 8)), none⟩])
       (.seq (.cond (.tmp 10)
         .skip
         (.exit 0))
        (.seq (.block 1
          (.seq (.ops [
            ⟨(some 11), (.idxSl 5 (.tmp 7) (.tmp 9)), none⟩, 
            ⟨(some 12), (.loadN 5 (.tmp 11)), none⟩, 
            ⟨(some 5), (.new 25 [(.int .i64 0), (.int .i64 0), (.string ⟨#[]⟩), (.slice none 0 0), (.slice none 0 0)]), none⟩, 
            ⟨none, (.storeN 5 (.tmp 5) (.tmp 12)), none⟩])
           (.ops [
            ⟨(some 13), (.mv (.tmp 3)), none⟩, 
            ⟨(some 14), (.loadN 5 (.tmp 5)), none⟩, 
            ⟨(some 15), (.callF 18 [(.tmp 14)]), none⟩, 
            ⟨(some 16), (.bin .add (.tmp 13) (.tmp 15)), none⟩, 
            ⟨(some 3), (.mv (.tmp 16)), none⟩])))
         (.ops [
          ⟨(some 17), (.bin .add (.tmp 9) (.const (.int .i64 1))), none⟩, 
          ⟨(some 9), (.mv (.tmp 17)), none⟩])))))))
   (.seq (.ops [
     ⟨(some 18), (.mv (.tmp 3)), none⟩, 
     ⟨(some 2), (.mv (.tmp 18)), none⟩])
    .ret))))
theorem c18 {args : Array Value} {h : Heap} {R : Ending → Heap → Prop} (ha : args.size ≤ 19) (hh : aexec Tryd.prog ac18 (abody [(.slot 2)] R) ⟨initFr args.toList, []⟩ h) : HCalls Tryd.prog 18 args h R :=
  hcalls_of Tryd.func18 rfl rfl (by kernel_rfl) (by kernel_rfl) ha hh
/-- 19: credenza/data.Text -/
def ac19 : ACode :=
 (.seq (.ops [
  ⟨(some 1), (.box 25 (.tmp 0)), none⟩, 
  ⟨(some 2), (.mv (.const (.string ⟨#[]⟩))), none⟩, 
  ⟨(some 3), (.mv (.const (.int .i64 0))), none⟩])
 (.seq (.seq (.ops [
    ⟨(some 6), (.loadN 5 (.tmp 1)), none⟩, 
    ⟨(some 7), (.callF 11 [(.tmp 6)]), none⟩, 
    ⟨(some 4), (.mv (.tmp 7)), none⟩])
   (.seq (.ops [
     ⟨(some 8), (.mv (.tmp 4)), none⟩, 
     ⟨(some 9), (.bin .neq (.tmp 8) (.const (.int .i64 0))), none⟩])
    (.cond (.tmp 9)
     (.seq (.ops [
       ⟨(some 10), (.mv (.tmp 4)), none⟩, 
       ⟨(some 2), (.mv (.const (.string ⟨#[]⟩))), none⟩, 
       ⟨(some 3), (.mv (.tmp 10)), none⟩])
      .ret)
     .skip)))
  (.seq (.ops [
    ⟨(some 11), (.build [(.pointer none), (.slice none 0 0)] []), none⟩, 
    ⟨(some 12), (.box 49 (.tmp 11)), none⟩, 
    ⟨(some 5), (.mv (.tmp 12)), none⟩])
   (.seq (.ops [
     ⟨(some 13), (.mv (.tmp 5)), none⟩, 
     ⟨(some 14), (.loadN 5 (.tmp 1)), none⟩, 
     ⟨(some 15), (.callF 31 [(.tmp 13), (.tmp 14)]), none⟩])
    (.seq (.ops [
      ⟨(some 16), (.mv (.tmp 5)), none⟩, 
      ⟨(some 17), (.nilCheck (.tmp 16)), none⟩, 
      ⟨(some 18), (.fieldAddr 0 (.tmp 17)), none⟩, 
      ⟨(some 19), (.callF 32 [(.tmp 18)]), none⟩, 
      ⟨(some 2), (.mv (.tmp 19)), none⟩, 
      ⟨(some 3), (.mv (.const (.int .i64 0))), none⟩])
     .ret)))))
theorem c19 {args : Array Value} {h : Heap} {R : Ending → Heap → Prop} (ha : args.size ≤ 20) (hh : aexec Tryd.prog ac19 (abody [(.slot 2), (.slot 3)] R) ⟨initFr args.toList, []⟩ h) : HCalls Tryd.prog 19 args h R :=
  hcalls_of Tryd.func19 rfl rfl (by kernel_rfl) (by kernel_rfl) ha hh
/-- 20: credenza/credenzaref03.Text -/
def ac20 : ACode :=
 (.seq (.ops [
  ⟨(some 1), (.box 25 (.tmp 0)), none⟩, 
  ⟨(some 2), (.mv (.const (.string ⟨#[]⟩))), none⟩, 
  ⟨(some 3), (.mv (.const (.int .i64 0))), none⟩])
 (.seq (.seq (.ops [
    ⟨(some 5), (.loadN 5 (.tmp 1)), none⟩, 
    ⟨(some 6), (.callF 12 [(.tmp 5)]), none⟩, 
    ⟨(some 4), (.mv (.tmp 6)), none⟩])
   (.seq (.ops [
     ⟨(some 7), (.mv (.tmp 4)), none⟩, 
     ⟨(some 8), (.bin .neq (.tmp 7) (.const (.int .i64 0))), none⟩])
    (.cond (.tmp 8)
     (.seq (.ops [
       ⟨(some 9), (.mv (.tmp 4)), none⟩, 
       ⟨(some 2), (.mv (.const (.string ⟨#[]⟩))), none⟩, 
       ⟨(some 3), (.mv (.tmp 9)), none⟩])
      .ret)
     .skip)))
  (.seq (.ops [
    ⟨(some 10), (.loadN 5 (.tmp 1)), none⟩, 
    ⟨(some 11), (.callF 33 [(.tmp 10)]), none⟩, 
    ⟨(some 2), (.mv (.tmp 11)), none⟩, 
    ⟨(some 3), (.mv (.const (.int .i64 0))), none⟩])
   .ret)))
theorem c20 {args : Array Value} {h : Heap} {R : Ending → Heap → Prop} (ha : args.size ≤ 12) (hh : aexec Tryd.prog ac20 (abody [(.slot 2), (.slot 3)] R) ⟨initFr args.toList, []⟩ h) : HCalls Tryd.prog 20 args h R :=
  hcalls_of Tryd.func20 rfl rfl (by kernel_rfl) (by kernel_rfl) ha hh
/-- 21: credenza/data.Copy -/
def ac21 : ACode :=
 (.seq (.ops [
  ⟨(some 1), (.box 25 (.tmp 0)), none⟩, 
  ⟨(some 2), (.new 25 [(.int .i64 0), (.int .i64 0), (.string ⟨#[]⟩), (.slice none 0 0), (.slice none 0 0)]), none⟩])
 (.seq (.seq (.any [5, 6, 7, 8, 9, 10, 11, 12] [
    ⟨(some 5), (.fieldAddr 3 (.tmp 1)), none⟩, 
    ⟨(some 6), (.load1 (.tmp 5)), none⟩, 
    ⟨(some 8), (.fieldAddr 4 (.tmp 1)), none⟩])
   (.alt
    (.any [5, 6, 7, 8, 9, 10, 11, 12] [
     ⟨(some 7), (.callF 34 [(.tmp 6)]), none⟩, 
     ⟨(some 9), (.load1 (.tmp 8)), none⟩, 
     ⟨(some 11), (.fieldAddr 3 (.tmp 1)), none⟩, 
     ⟨(some 10), (.callF 35 [(.tmp 9)]), none⟩, 
     ⟨none, (.store1 (.tmp 11) (.tmp 7)), none⟩, 
     ⟨(some 12), (.fieldAddr 4 (.tmp 1)), none⟩, 
     ⟨none, (.store1 (.tmp 12) (.tmp 10)), none⟩])
    (.any [5, 6, 7, 8, 9, 10, 11, 12] [
     ⟨(some 9), (.load1 (.tmp 8)), none⟩, 
     ⟨(some 7), (.callF 34 [(.tmp 6)]), none⟩, 
     ⟨(some 11), (.fieldAddr 3 (.tmp 1)), none⟩, 
     ⟨(some 10), (.callF 35 [(.tmp 9)]), none⟩, 
     ⟨none, (.store1 (.tmp 11) (.tmp 7)), none⟩, 
     ⟨(some 12), (.fieldAddr 4 (.tmp 1)), none⟩, 
     ⟨none, (.store1 (.tmp 12) (.tmp 10)), none⟩])))
  (.seq (.seq (.ops [
     ⟨(some 13), (.fieldAddr 4 (.tmp 1)), none⟩, 
     ⟨(some 14), (.load1 (.tmp 13)), none⟩, 
     ⟨(some 15), (.lenSl (.tmp 14)), none⟩, 
     ⟨(some 16), (.mv (.const (.int .i64 0))), none⟩])
    (.block 0
     (.loop
      (.seq (.ops [
        ⟨(some 17), (.bin .lss (.tmp 16) (.tmp 15)), none⟩])
       (.seq (.cond (.tmp 17)
         .skip
         (.exit 0))
        (.seq (.block 1
          (.seq (.ops [
            ⟨(some 18), (.mv (.tmp 16)), none⟩, 
            ⟨(some 19), (.idxSl 5 (.tmp 14) (.tmp 16)), none⟩, 
            ⟨(some 20), (.loadN 5 (.tmp 19)), none⟩, 
            ⟨(some 4), (.new 25 [(.int .i64 0), (.int .i64 0), (.string ⟨#[]⟩), (.slice none 0 0), (.slice none 0 0)]), none⟩, 
            ⟨(some 3), (.mv (.tmp 18)), none⟩, 
            ⟨none, (.storeN 5 (.tmp 4) (.tmp 20)), none⟩])
           (.seq (.any [21, 22, 23, 24, 25, 26] [
             ⟨(some 21), (.fieldAddr 4 (.tmp 1)), none⟩, 
             ⟨(some 23), (.mv (.tmp 3)), none⟩, 
             ⟨(some 24), (.loadN 5 (.tmp 4)), none⟩])
            (.alt
             (.any [21, 22, 23, 24, 25, 26] [
              ⟨(some 22), (.load1 (.tmp 21)), none⟩, 
              ⟨(some 25), (.callF 21 [(.tmp 24)]), none⟩, 
              ⟨(some 26), (.idxSl 5 (.tmp 22) (.tmp 23)), none⟩, 
              ⟨none, (.storeN 5 (.tmp 26) (.tmp 25)), none⟩])
             (.any [21, 22, 23, 24, 25, 26] [
              ⟨(some 25), (.callF 21 [(.tmp 24)]), none⟩, 
              ⟨(some 22), (.load1 (.tmp 21)), none⟩, 
              ⟨(some 26), (.idxSl 5 (.tmp 22) (.tmp 23)), none⟩, 
              ⟨none, (.storeN 5 (.tmp 26) (.tmp 25)), none⟩])))))
         (.ops [
          ⟨(some 27), (.bin .add (.tmp 16) (.const (.int .i64 1))), none⟩, 
          ⟨(some 16), (.mv (.tmp 27)), none⟩])))))))
   (.seq (.ops [
     ⟨(some 28), (.loadN 5 (.tmp 1)), none⟩, 
     ⟨none, (.storeN 5 (.tmp 2) (.tmp 28)), none⟩])
    .ret))))
theorem c21 {args : Array Value} {h : Heap} {R : Ending → Heap → Prop} (ha : args.size ≤ 29) (hh : aexec Tryd.prog ac21 (abody [(.cellN 2 5)] R) ⟨initFr args.toList, []⟩ h) : HCalls Tryd.prog 21 args h R :=
  hcalls_of Tryd.func21 rfl rfl (by kernel_rfl) (by kernel_rfl) ha hh
/-- 22: credenza/credenzalaw03.spoil -/
def ac22 : ACode :=
 (.seq (.ops [
  ⟨(some 1), (.box 25 (.tmp 0)), none⟩])
 (.seq (.seq (.ops [
    ⟨(some 4), (.fieldAddr 3 (.tmp 1)), none⟩, 
    ⟨(some 5), (.load1 (.tmp 4)), none⟩, 
    ⟨(some 6), (.lenSl (.tmp 5)), none⟩, 
    ⟨(some 7), (.mv (.const (.int .i64 0))), none⟩])
   (.block 0
    (.loop
     (.seq (.ops [
       ⟨(some 8), (.bin .lss (.tmp 7) (.tmp 6)), none⟩])
      (.seq (.cond (.tmp 8)
        .skip
        (.exit 0))
       (.seq (.block 1
         (.seq (.ops [
           ⟨(some 9), (.mv (.tmp 7)), none⟩, 
           ⟨(some 2), (.mv (.tmp 9)), none⟩])
          (.ops [
           ⟨(some 10), (.fieldAddr 3 (.tmp 1)), none⟩, 
           ⟨(some 11), (.load1 (.tmp 10)), none⟩, 
           ⟨(some 12), (.mv (.tmp 2)), none⟩, 
           ⟨(some 13), (.idxSl 1 (.tmp 11) (.tmp 12)), none⟩, 
           ⟨none, (.store1 (.tmp 13) (.const (.string ⟨#[122, 122]⟩))), none⟩])))
        (.ops [
         ⟨(some 14), (.bin .add (.tmp 7) (.const (.int .i64 1))), none⟩, 
         ⟨(some 7), (.mv (.tmp 14)), none⟩])))))))
  (.seq (.ops [
    ⟨(some 15), (.fieldAddr 4 (.tmp 1)), none⟩, 
    ⟨(some 16), (.load1 (.tmp 15)), none⟩, 
    ⟨(some 17), (.lenSl (.tmp 16)), none⟩, 
    ⟨(some 18), (.mv (.const (.int .i64 0))), none⟩])
   (.block 2
    (.loop
     (.seq (.ops [
       ⟨(some 19), (.bin .lss (.tmp 18) (.tmp 17)), none⟩])
      (.seq (.cond (.tmp 19)
        .skip
        (.exit 2))
       (.seq (.block 3
         (.seq (.ops [
           ⟨(some 20), (.mv (.tmp 18)), none⟩, 
           ⟨(some 3), (.mv (.tmp 20)), none⟩])
          (.seq (.ops [
            ⟨(some 21), (.fieldAddr 4 (.tmp 1)), none⟩, 
            ⟨(some 22), (.load1 (.tmp 21)), none⟩, 
            ⟨(some 23), (.mv (.tmp 3)), none⟩, 
            ⟨(some 24), (.idxSl 5 (.tmp 22) (.tmp 23)), none⟩, 
            ⟨(some 25), (.loadN 5 (.tmp 24)), none⟩, 
            ⟨(some 26), (.callF 22 [(.tmp 25)]), none⟩])
           (.ops [
            ⟨(some 27), (.fieldAddr 4 (.tmp 1)), none⟩, 
            ⟨(some 28), (.load1 (.tmp 27)), none⟩, 
            ⟨(some 29), (.mv (.tmp 3)), none⟩, 
            ⟨(some 30), (.build [(.int .i64 0), (.int .i64 0), (.string ⟨#[]⟩), (.slice none 0 0), (.slice none 0 0)] [(0, 1, (.const (.int .i64 77)))]), none⟩, 
            ⟨(some 31), (.idxSl 5 (.tmp 28) (.tmp 29)), none⟩, 
            ⟨none, (.storeN 5 (.tmp 31) (.tmp 30)), none⟩]))))
        (.ops [
         ⟨(some 32), (.bin .add (.tmp 18) (.const (.int .i64 1))), none⟩, 
         ⟨(some 18), (.mv (.tmp 32)), none⟩])))))))))
theorem c22 {args : Array Value} {h : Heap} {R : Ending → Heap → Prop} (ha : args.size ≤ 33) (hh : aexec Tryd.prog ac22 (abody [] R) ⟨initFr args.toList, []⟩ h) : HCalls Tryd.prog 22 args h R :=
  hcalls_of Tryd.func22 rfl rfl (by kernel_rfl) (by kernel_rfl) ha hh
/-- 23: credenza/credenzalaw03.ab -/
def ac23 : ACode :=
 (.seq (.ops [
  ⟨(some 0), (.new 25 [(.int .i64 0), (.int .i64 0), (.string ⟨#[]⟩), (.slice none 0 0), (.slice none 0 0)]), none⟩])
 (.seq (.ops [
   ⟨(some 1), (.buildSlice 9 2 [(.string ⟨#[]⟩), (.string ⟨#[]⟩)] [(0, 1, (.const (.string ⟨#[0, 97]⟩))), (1, 1, (.const (.string ⟨#[0, 98]⟩)))]), none⟩, 
   ⟨(some 2), (.build [(.int .i64 0), (.int .i64 0), (.string ⟨#[]⟩), (.slice none 0 0), (.slice none 0 0)] [(0, 1, (.const (.int .i64 3))), (1, 1, (.const (.int .i64 1)))]), none⟩, 
   ⟨(some 3), (.build [(.int .i64 0), (.int .i64 0), (.string ⟨#[]⟩), (.slice none 0 0), (.slice none 0 0)] [(0, 1, (.const (.int .i64 1)))]), none⟩, 
   ⟨(some 4), (.build [(.int .i64 0), (.int .i64 0), (.string ⟨#[]⟩), (.slice none 0 0), (.slice none 0 0)] [(0, 1, (.const (.int .i64 4))), (2, 1, (.const (.string ⟨#[0, 120]⟩)))]), none⟩, 
   ⟨(some 5), (.buildSlice 25 2 [(.int .i64 0), (.int .i64 0), (.string ⟨#[]⟩), (.slice none 0 0), (.slice none 0 0), (.int .i64 0), (.int .i64 0), (.string ⟨#[]⟩), (.slice none 0 0), (.slice none 0 0)] [(0, 5, (.tmp 3)), (5, 5, (.tmp 4))]), none⟩, 
   ⟨(some 6), (.build [(.int .i64 0), (.int .i64 0), (.string ⟨#[]⟩), (.slice none 0 0), (.slice none 0 0)] [(0, 1, (.const (.int .i64 5))), (4, 1, (.tmp 5))]), none⟩, 
   ⟨(some 7), (.buildSlice 25 2 [(.int .i64 0), (.int .i64 0), (.string ⟨#[]⟩), (.slice none 0 0), (.slice none 0 0), (.int .i64 0), (.int .i64 0), (.string ⟨#[]⟩), (.slice none 0 0), (.slice none 0 0)] [(0, 5, (.tmp 2)), (5, 5, (.tmp 6))]), none⟩, 
   ⟨(some 8), (.build [(.int .i64 0), (.int .i64 0), (.string ⟨#[]⟩), (.slice none 0 0), (.slice none 0 0)] [(0, 1, (.const (.int .i64 6))), (3, 1, (.tmp 1)), (4, 1, (.tmp 7))]), none⟩, 
   ⟨none, (.storeN 5 (.tmp 0) (.tmp 8)), none⟩])
  .ret))
theorem c23 {args : Array Value} {h : Heap} {R : Ending → Heap → Prop} (ha : args.size ≤ 9) (hh : aexec Tryd.prog ac23 (abody [(.cellN 0 5)] R) ⟨initFr args.toList, []⟩ h) : HCalls Tryd.prog 23 args h R :=
  hcalls_of Tryd.func23 rfl rfl (by kernel_rfl) (by kernel_rfl) ha hh
/-- 24: credenza/data.level -/
def ac24 : ACode :=
 (.seq (.ops [
  ⟨(some 1), (.box 25 (.tmp 0)), none⟩, 
  ⟨(some 2), (.mv (.const (.int .i64 0))), none⟩])
 (.seq (.ops [
   ⟨(some 3), (.mv (.const (.int .i64 0))), none⟩, 
   ⟨(some 4), (.mv (.const (.int .i64 0))), none⟩])
  (.seq (.any [12, 13, 14, 15, 16, 17, 18, 19, 20, 21, 22, 5, 6, 7] [
    ⟨(some 12), (.fieldAddr 2 (.tmp 1)), none⟩, 
    ⟨(some 13), (.load1 (.tmp 12)), none⟩, 
    ⟨(some 14), (.bin .eql (.tmp 13) (.const (.string ⟨#[]⟩))), none⟩, 
    ⟨(some 15), (.fieldAddr 4 (.tmp 1)), none⟩, 
    ⟨(some 16), (.load1 (.tmp 15)), none⟩, 
    ⟨(some 17), (.lenSl (.tmp 16)), none⟩, 
    ⟨(some 18), (.bin .eql (.tmp 17) (.const (.int .i64 0))), none⟩, 
    ⟨(some 19), (.fieldAddr 3 (.tmp 1)), none⟩, 
    ⟨(some 20), (.load1 (.tmp 19)), none⟩, 
    ⟨(some 21), (.lenSl (.tmp 20)), none⟩, 
    ⟨(some 22), (.bin .eql (.tmp 21) (.const (.int .i64 0))), none⟩, 
    ⟨(some 5), (.mv (.tmp 14)), none⟩, 
    ⟨(some 6), (.mv (.tmp 18)), none⟩, 
    ⟨(some 7), (.mv (.tmp 22)), none⟩])
   (.seq (.seq (.ops [
      ⟨(some 23), (.fieldAddr 0 (.tmp 1)), none⟩, 
      ⟨(some 24), (.load1 (.tmp 23)), none⟩])
     (.block 0
      (.seq (.seq (.ops [
         ⟨(some 26), (.bin .eql (.tmp 24) (.const (.int .i64 0))), none⟩, 
         ⟨(some 25), (.mv (.tmp 26)), none⟩])
        (.cond (.tmp 25)
         .skip
         (.ops [
          ⟨(some 27), (.bin .eql (.tmp 24) (.const (.int .i64 1))), none⟩, 
          ⟨(some 25), (.mv (.tmp 27)), none⟩])))
       (.cond (.tmp 25)
        .skip
        (.seq (.ops [
          ⟨(some 29), (.bin .eql (.tmp 24) (.const (.int .i64 2))), none⟩, 
          ⟨(some 28), (.mv (.tmp 29)), none⟩])
         (.cond (.tmp 28)
          (.ops [
           ⟨(some 4), (.mv (.const (.int .i64 1))), none⟩])
          (.seq (.ops [
            ⟨(some 31), (.bin .eql (.tmp 24) (.const (.int .i64 3))), none⟩, 
            ⟨(some 30), (.mv (.tmp 31)), none⟩])
           (.cond (.tmp 30)
            (.ops [
             ⟨(some 3), (.mv (.const (.int .i64 (-9007199254740991)))), none⟩, 
             ⟨(some 4), (.mv (.const (.int .i64 9007199254740991))), none⟩])
            (.seq (.ops [
              ⟨(some 33), (.bin .eql (.tmp 24) (.const (.int .i64 4))), none⟩, 
              ⟨(some 32), (.mv (.tmp 33)), none⟩])
             (.cond (.tmp 32)
              (.ops [
               ⟨(some 34), (.fieldAddr 2 (.tmp 1)), none⟩, 
               ⟨(some 35), (.load1 (.tmp 34)), none⟩, 
               ⟨(some 36), (.callF 36 [(.tmp 35)]), none⟩, 
               ⟨(some 5), (.mv (.tmp 36)), none⟩])
              (.seq (.ops [
                ⟨(some 38), (.bin .eql (.tmp 24) (.const (.int .i64 5))), none⟩, 
                ⟨(some 37), (.mv (.tmp 38)), none⟩])
               (.cond (.tmp 37)
                (.ops [
                 ⟨(some 6), (.mv (.const (.bool true))), none⟩])
                (.seq (.ops [
                  ⟨(some 40), (.bin .eql (.tmp 24) (.const (.int .i64 6))), none⟩, 
                  ⟨(some 39), (.mv (.tmp 40)), none⟩])
                 (.cond (.tmp 39)
                  (.ops [
                   ⟨(some 41), (.loadN 5 (.tmp 1)), none⟩, 
                   ⟨(some 42), (.callF 37 [(.tmp 41)]), none⟩, 
                   ⟨(some 6), (.mv (.const (.bool true))), none⟩, 
                   ⟨(some 7), (.mv (.tmp 42)), none⟩])
                  (.seq (.ops [
                    ⟨(some 2), (.mv (.const (.int .i64 0))), none⟩])
                   .ret)))))))))))))))
    (.seq (.seq (.ops [
       ⟨(some 43), (.fieldAddr 1 (.tmp 1)), none⟩, 
       ⟨(some 44), (.load1 (.tmp 43)), none⟩, 
       ⟨(some 45), (.mv (.tmp 3)), none⟩, 
       ⟨(some 46), (.bin .lss (.tmp 44) (.tmp 45)), none⟩, 
       ⟨(some 47), (.mv (.tmp 46)), none⟩, 
       ⟨(some 48), (.fieldAddr 1 (.tmp 1)), (some (47, false))⟩, 
       ⟨(some 49), (.load1 (.tmp 48)), (some (47, false))⟩, 
       ⟨(some 50), (.mv (.tmp 4)), (some (47, false))⟩, 
       ⟨(some 51), (.bin .gtr (.tmp 49) (.tmp 50)), (some (47, false))⟩, 
       ⟨(some 52), (.pick (.tmp 47) (.const (.bool true)) (.tmp 51)), none⟩, 
       ⟨(some 53), (.mv (.tmp 52)), none⟩, 
       ⟨(some 54), (.mv (.tmp 5)), (some (53, false))⟩, 
       ⟨(some 55), (.un .not (.tmp 54)), (some (53, false))⟩, 
       ⟨(some 56), (.pick (.tmp 53) (.const (.bool true)) (.tmp 55)), none⟩, 
       ⟨(some 57), (.mv (.tmp 56)), none⟩, 
       ⟨(some 58), (.mv (.tmp 6)), (some (57, false))⟩, 
       ⟨(some 59), (.un .not (.tmp 58)), (some (57, false))⟩, 
       ⟨(some 60), (.pick (.tmp 57) (.const (.bool true)) (.tmp 59)), none⟩, 
       ⟨(some 61), (.mv (.tmp 60)), none⟩, 
       ⟨(some 62), (.mv (.tmp 7)), (some (61, false))⟩, 
       ⟨(some 63), (.un .not (.tmp 62)), (some (61, false))⟩, 
       ⟨(some 64), (.pick (.tmp 61) (.const (.bool true)) (.tmp 63)), none⟩])
      (.cond (.tmp 64)
       (.seq (.ops [
         ⟨(some 2), (.mv (.const (.int .i64 0))), none⟩])
        .ret)
       .skip))
     (.seq (.ops [
       ⟨(some 8), (.mv (.const (.int .i64 1))), none⟩])
      (.seq (.seq (.ops [
         ⟨(some 65), (.fieldAddr 4 (.tmp 1)), none⟩, 
         ⟨(some 66), (.load1 (.tmp 65)), none⟩, 
         ⟨(some 67), (.lenSl (.tmp 66)), none⟩, 
         ⟨(some 68), (.mv (.const (.int .i64 0))), none⟩])
        (.block 1
         (.loop
          (.seq (.ops [
            ⟨(some 69), (.bin .lss (.tmp 68) (.tmp 67)), none⟩])
           (.seq (.cond (.tmp 69)
             .skip
             (.exit 1))
            (.seq (.block 2
              (.seq (.ops [
                ⟨(some 70), (.idxSl 5 (.tmp 66) (.tmp 68)), none⟩, 
                ⟨(some 71), (.loadN 5 (.tmp 70)), none⟩, 
                ⟨(some 10), (.new 25 [(.int .i64 0), (.int .i64 0), (.string ⟨#[]⟩), (.slice none 0 0), (.slice none 0 0)]), none⟩, 
                ⟨none, (.storeN 5 (.tmp 10) (.tmp 71)), none⟩])
               (.seq (.ops [
                 ⟨(some 72), (.loadN 5 (.tmp 10)), none⟩, 
                 ⟨(some 73), (.callF 24 [(.tmp 72)]), none⟩, 
                 ⟨(some 11), (.mv (.tmp 73)), none⟩])
                (.seq (.seq (.ops [
                   ⟨(some 74), (.mv (.tmp 11)), none⟩, 
                   ⟨(some 75), (.bin .eql (.tmp 74) (.const (.int .i64 0))), none⟩])
                  (.cond (.tmp 75)
                   (.seq (.ops [
                     ⟨(some 2), (.mv (.const (.int .i64 0))), none⟩])
                    .ret)
                   .skip))
                 (.ops [
                  ⟨(some 76), (.mv (.tmp 8)), none⟩, 
                  ⟨(some 77), (.mv (.tmp 11)), none⟩, 
                  ⟨(some 78), (.bin .add (.tmp 77) (.const (.int .i64 1))), none⟩, 
                  ⟨(some 79), (.minmax true (.tmp 76) [(.tmp 78)]), none⟩, 
                  ⟨(some 8), (.mv (.tmp 79)), none⟩])))))
             (.ops [
              ⟨(some 80), (.bin .add (.tmp 68) (.const (.int .i64 1))), none⟩, 
              ⟨(some 68), (.mv (.tmp 80)), none⟩])))))))
       (.seq (.ops [
         ⟨(some 81), (.mv (.tmp 8)), none⟩, 
         ⟨(some 2), (.mv (.tmp 81)), none⟩])
        .ret))))))))
theorem c24 {args : Array Value} {h : Heap} {R : Ending → Heap → Prop} (ha : args.size ≤ 82) (hh : aexec Tryd.prog ac24 (abody [(.slot 2)] R) ⟨initFr args.toList, []⟩ h) : HCalls Tryd.prog 24 args h R :=
  hcalls_of Tryd.func24 rfl rfl (by kernel_rfl) (by kernel_rfl) ha hh
/-- 25: credenza/credenzaref03.may -/
def ac25 : ACode :=
 (.seq (.ops [
  ⟨(some 1), (.box 25 (.tmp 0)), none⟩, 
  ⟨(some 2), (.mv (.const (.bool false))), none⟩])
 (.seq (.seq (.ops [
    ⟨(some 5), (.loadN 5 (.tmp 1)), none⟩, 
    ⟨(some 6), (.callF 38 [(.tmp 5)]), none⟩, 
    ⟨(some 7), (.un .not (.tmp 6)), none⟩])
   (.cond (.tmp 7)
    (.seq (.ops [
      ⟨(some 2), (.mv (.const (.bool false))), none⟩])
     .ret)
    .skip))
  (.seq (.seq (.ops [
     ⟨(some 8), (.fieldAddr 4 (.tmp 1)), none⟩, 
     ⟨(some 9), (.load1 (.tmp 8)), none⟩, 
     ⟨(some 10), (.lenSl (.tmp 9)), none⟩, 
     ⟨(some 11), (.mv (.const (.int .i64 0))), none⟩])
    (.block 0
     (.loop
      (.seq (.ops [
        ⟨(some 12), (.bin .lss (.tmp 11) (.tmp 10)), none⟩])
       (.seq (.cond (.tmp 12)
         .skip
         (.exit 0))
        (.seq (.block 1
          (.seq (.ops [
            ⟨(some 13), (.idxSl 5 (.tmp 9) (.tmp 11)), none⟩, 
            ⟨(some 14), (.loadN 5 (.tmp 13)), none⟩, 
            ⟨(some 4), (.new 25 [(.int .i64 0), (.int .i64 0), (.string ⟨#[]⟩), (.slice none 0 0), (.slice none 0 0)]), none⟩, 
            ⟨none, (.storeN 5 (.tmp 4) (.tmp 14)), none⟩])
           (.seq (.ops [
             ⟨(some 15), (.loadN 5 (.tmp 4)), none⟩, 
             ⟨(some 16), (.callF 25 [(.tmp 15)]), none⟩, 
             ⟨(some 17), (.un .not (.tmp 16)), none⟩])
            (.cond (.tmp 17)
             (.seq (.ops [
               ⟨(some 2), (.mv (.const (.bool false))), none⟩])
              .ret)
             .skip))))
         (.ops [
          ⟨(some 18), (.bin .add (.tmp 11) (.const (.int .i64 1))), none⟩, 
          ⟨(some 11), (.mv (.tmp 18)), none⟩])))))))
   (.seq (.ops [
     ⟨(some 2), (.mv (.const (.bool true))), none⟩])
    .ret))))
theorem c25 {args : Array Value} {h : Heap} {R : Ending → Heap → Prop} (ha : args.size ≤ 19) (hh : aexec Tryd.prog ac25 (abody [(.slot 2)] R) ⟨initFr args.toList, []⟩ h) : HCalls Tryd.prog 25 args h R :=
  hcalls_of Tryd.func25 rfl rfl (by kernel_rfl) (by kernel_rfl) ha hh
/-- 26: credenza/credenzaref03.deep -/
def ac26 : ACode :=
 (.seq (.ops [
  ⟨(some 1), (.box 25 (.tmp 0)), none⟩, 
  ⟨(some 2), (.mv (.const (.int .i64 0))), none⟩])
 (.seq (.ops [
   ⟨(some 3), (.mv (.const (.int .i64 0))), none⟩])
  (.seq (.seq (.ops [
     ⟨(some 6), (.fieldAddr 4 (.tmp 1)), none⟩, 
     ⟨(some 7), (.load1 (.tmp 6)), none⟩, 
     ⟨(some 8), (.lenSl (.tmp 7)), none⟩, 
     ⟨(some 9), (.mv (.const (.int .i64 0))), none⟩])
    (.block 0
     (.loop
      (.seq (.ops [
        ⟨(some 10), (.bin .lss (.tmp 9) (.tmp 8)), none⟩])
       (.seq (.cond (.tmp 10)
         .skip
         (.exit 0))
        (.seq (.block 1
          (.seq (.ops [
            ⟨(some 11), (.idxSl 5 (.tmp 7) (.tmp 9)), none⟩, 
            ⟨(some 12), (.loadN 5 (.tmp 11)), none⟩, 
            ⟨(some 5), (.new 25 [(.int .i64 0), (.int .i64 0), (.string ⟨#[]⟩), (.slice none 0 0), (.slice none 0 0)]), none⟩, 
            ⟨none, (.storeN 5 (.tmp 5) (.tmp 12)), none⟩])
           (.ops [
            ⟨(some 13), (.mv (.tmp 3)), none⟩, 
            ⟨(some 14), (.loadN 5 (.tmp 5)), none⟩, 
            ⟨(some 15), (.callF 26 [(.tmp 14)]), none⟩, 
            ⟨(some 16), (.minmax true (.tmp 13) [(.tmp 15)]), none⟩, 
            ⟨(some 3), (.mv (.tmp 16)), none⟩])))
         (.ops [
          ⟨(some 17), (.bin .add (.tmp 9) (.const (.int .i64 1))), none⟩, 
          ⟨(some 9), (.mv (.tmp 17)), none⟩])))))))
   (.seq (.ops [
     ⟨(some 18), (.mv (.tmp 3)), none⟩, 
     ⟨(some 19), (.bin .add (.tmp 18) (.const (.int .i64 1))), none⟩, 
     ⟨(some 2), (.mv (.tmp 19)), none⟩])
    .ret))))
theorem c26 {args : Array Value} {h : Heap} {R : Ending → Heap → Prop} (ha : args.size ≤ 20) (hh : aexec Tryd.prog ac26 (abody [(.slot 2)] R) ⟨initFr args.toList, []⟩ h) : HCalls Tryd.prog 26 args h R :=
  hcalls_of Tryd.func26 rfl rfl (by kernel_rfl) (by kernel_rfl) ha hh
/-- 27: slices.Index[[]string,string] -/
def ac27 : ACode :=
 (.seq (.ops [
  ⟨(some 4), (.mv (.const (.int .i64 0))), none⟩])
 (.seq (.seq (.ops [
    ⟨(some 6), (.mv (.tmp 0)), none⟩, 
    ⟨(some 7), (.lenSl (.tmp 6)), none⟩, 
    ⟨(some 8), (.mv (.const (.int .i64 0))), none⟩])
   (.block 0
    (.loop
     (.seq (.ops [
       ⟨(some 9), (.bin .lss (.tmp 8) (.tmp 7)), none⟩])
      (.seq (.cond (.tmp 9)
        .skip
        (.exit 0))
       (.seq (.block 1
         (.seq (.ops [
           ⟨(some 10), (.mv (.tmp 8)), none⟩, 
           ⟨(some 5), (.mv (.tmp 10)), none⟩])
          (.seq (.ops [
            ⟨(some 11), (.mv (.tmp 1)), none⟩, 
            ⟨(some 12), (.mv (.tmp 0)), none⟩, 
            ⟨(some 13), (.mv (.tmp 5)), none⟩, 
            ⟨(some 14), (.idxSl 1 (.tmp 12) (.tmp 13)), none⟩, 
            ⟨(some 15), (.load1 (.tmp 14)), none⟩, 
            ⟨(some 16), (.bin .eql (.tmp 11) (.tmp 15)), none⟩])
           (.cond (.tmp 16)
            (.seq (.ops [
              ⟨(some 17), (.mv (.tmp 5)), none⟩, 
              ⟨(some 4), (.mv (.tmp 17)), none⟩])
             .ret)
            .skip))))
        (.ops [
         ⟨(some 18), (.bin .add (.tmp 8) (.const (.int .i64 1))), none⟩, 
         ⟨(some 8), (.mv (.tmp 18)), none⟩])))))))
  (.seq (.ops [
    ⟨(some 4), (.mv (.const (.int .i64 (-1)))), none⟩])
   .ret)))
theorem c27 {args : Array Value} {h : Heap} {R : Ending → Heap → Prop} (ha : args.size ≤ 19) (hh : aexec Tryd.prog ac27 (abody [(.slot 4)] R) ⟨initFr args.toList, []⟩ h) : HCalls Tryd.prog 27 args h R :=
  hcalls_of Tryd.func27 rfl rfl (by kernel_rfl) (by kernel_rfl) ha hh
/-- 28: credenza/credenzaref03.Copy -/
def ac28 : ACode :=
 (.seq (.ops [
  ⟨(some 1), (.box 25 (.tmp 0)), none⟩, 
  ⟨(some 2), (.new 25 [(.int .i64 0), (.int .i64 0), (.string ⟨#[]⟩), (.slice none 0 0), (.slice none 0 0)]), none⟩])
 (.seq (.seq (.any [6, 7, 8, 9, 10, 11, 12, 13, 14, 15, 3] [
    ⟨(some 6), (.fieldAddr 0 (.tmp 1)), none⟩, 
    ⟨(some 7), (.load1 (.tmp 6)), none⟩, 
    ⟨(some 8), (.fieldAddr 1 (.tmp 1)), none⟩, 
    ⟨(some 9), (.load1 (.tmp 8)), none⟩, 
    ⟨(some 10), (.fieldAddr 2 (.tmp 1)), none⟩, 
    ⟨(some 11), (.load1 (.tmp 10)), none⟩, 
    ⟨(some 12), (.fieldAddr 3 (.tmp 1)), none⟩, 
    ⟨(some 13), (.load1 (.tmp 12)), none⟩])
   (.alt
    (.any [6, 7, 8, 9, 10, 11, 12, 13, 14, 15, 3] [
     ⟨(some 14), (.append 9 1 16 [(.string ⟨#[]⟩)] (.const (.slice none 0 0)) (.tmp 13)), none⟩, 
     ⟨(some 15), (.build [(.int .i64 0), (.int .i64 0), (.string ⟨#[]⟩), (.slice none 0 0), (.slice none 0 0)] [(0, 1, (.tmp 7)), (1, 1, (.tmp 9)), (2, 1, (.tmp 11)), (3, 1, (.tmp 14))]), none⟩, 
     ⟨(some 3), (.new 25 [(.int .i64 0), (.int .i64 0), (.string ⟨#[]⟩), (.slice none 0 0), (.slice none 0 0)]), none⟩, 
     ⟨none, (.storeN 5 (.tmp 3) (.tmp 15)), none⟩])
    (.any [6, 7, 8, 9, 10, 11, 12, 13, 14, 15, 3] [
     ⟨(some 3), (.new 25 [(.int .i64 0), (.int .i64 0), (.string ⟨#[]⟩), (.slice none 0 0), (.slice none 0 0)]), none⟩, 
     ⟨(some 14), (.append 9 1 16 [(.string ⟨#[]⟩)] (.const (.slice none 0 0)) (.tmp 13)), none⟩, 
     ⟨(some 15), (.build [(.int .i64 0), (.int .i64 0), (.string ⟨#[]⟩), (.slice none 0 0), (.slice none 0 0)] [(0, 1, (.tmp 7)), (1, 1, (.tmp 9)), (2, 1, (.tmp 11)), (3, 1, (.tmp 14))]), none⟩, 
     ⟨none, (.storeN 5 (.tmp 3) (.tmp 15)), none⟩])))
  (.seq (.seq (.ops [
     ⟨(some 16), (.fieldAddr 4 (.tmp 1)), none⟩, 
     ⟨(some 17), (.load1 (.tmp 16)), none⟩, 
     ⟨(some 18), (.lenSl (.tmp 17)), none⟩, 
     ⟨(some 19), (.mv (.const (.int .i64 0))), none⟩])
    (.block 0
     (.loop
      (.seq (.ops [
        ⟨(some 20), (.bin .lss (.tmp 19) (.tmp 18)), none⟩])
       (.seq (.cond (.tmp 20)
         .skip
         (.exit 0))
        (.seq (.block 1
          (.seq (.ops [
            ⟨(some 21), (.idxSl 5 (.tmp 17) (.tmp 19)), none⟩, 
            ⟨(some 22), (.loadN 5 (.tmp 21)), none⟩, 
            ⟨(some 5), (.new 25 [(.int .i64 0), (.int .i64 0), (.string ⟨#[]⟩), (.slice none 0 0), (.slice none 0 0)]), none⟩, 
            ⟨none, (.storeN 5 (.tmp 5) (.tmp 22)), none⟩])
           (.seq (.any [23, 24, 25, 26, 27, 28, 29] [
             ⟨(some 23), (.fieldAddr 4 (.tmp 3)), none⟩, 
             ⟨(some 25), (.loadN 5 (.tmp 5)), none⟩])
            (.alt
             (.any [23, 24, 25, 26, 27, 28, 29] [
              ⟨(some 24), (.load1 (.tmp 23)), none⟩, 
              ⟨(some 26), (.callF 28 [(.tmp 25)]), none⟩, 
              ⟨(some 27), (.buildSlice 25 1 [(.int .i64 0), (.int .i64 0), (.string ⟨#[]⟩), (.slice none 0 0), (.slice none 0 0)] [(0, 5, (.tmp 26))]), none⟩, 
              ⟨(some 28), (.append 25 5 80 [(.int .i64 0), (.int .i64 0), (.string ⟨#[]⟩), (.slice none 0 0), (.slice none 0 0)] (.tmp 24) (.tmp 27)), none⟩, 
              ⟨(some 29), (.fieldAddr 4 (.tmp 3)), none⟩, 
              ⟨none, (.store1 (.tmp 29) (.tmp 28)), none⟩])
             (.any [23, 24, 25, 26, 27, 28, 29] [
              ⟨(some 26), (.callF 28 [(.tmp 25)]), none⟩, 
              ⟨(some 24), (.load1 (.tmp 23)), none⟩, 
              ⟨(some 27), (.buildSlice 25 1 [(.int .i64 0), (.int .i64 0), (.string ⟨#[]⟩), (.slice none 0 0), (.slice none 0 0)] [(0, 5, (.tmp 26))]), none⟩, 
              ⟨(some 28), (.append 25 5 80 [(.int .i64 0), (.int .i64 0), (.string ⟨#[]⟩), (.slice none 0 0), (.slice none 0 0)] (.tmp 24) (.tmp 27)), none⟩, 
              ⟨(some 29), (.fieldAddr 4 (.tmp 3)), none⟩, 
              ⟨none, (.store1 (.tmp 29) (.tmp 28)), none⟩])))))
         (.ops [
          ⟨(some 30), (.bin .add (.tmp 19) (.const (.int .i64 1))), none⟩, 
          ⟨(some 19), (.mv (.tmp 30)), none⟩])))))))
   (.seq (.ops [
     ⟨(some 31), (.loadN 5 (.tmp 3)), none⟩, 
     ⟨none, (.storeN 5 (.tmp 2) (.tmp 31)), none⟩])
    .ret))))
theorem c28 {args : Array Value} {h : Heap} {R : Ending → Heap → Prop} (ha : args.size ≤ 32) (hh : aexec Tryd.prog ac28 (abody [(.cellN 2 5)] R) ⟨initFr args.toList, []⟩ h) : HCalls Tryd.prog 28 args h R :=
  hcalls_of Tryd.func28 rfl rfl (by kernel_rfl) (by kernel_rfl) ha hh
/-- 29: slices.Equal[[]string,string] -/
def ac29 : ACode :=
 (.seq (.ops [
  ⟨(some 4), (.mv (.const (.bool false))), none⟩])
 (.seq (.seq (.ops [
    ⟨(some 6), (.mv (.tmp 0)), none⟩, 
    ⟨(some 7), (.lenSl (.tmp 6)), none⟩, 
    ⟨(some 8), (.mv (.tmp 1)), none⟩, 
    ⟨(some 9), (.lenSl (.tmp 8)), none⟩, 
    ⟨(some 10), (.bin .neq (.tmp 7) (.tmp 9)), none⟩])
   (.cond (.tmp 10)
    (.seq (.ops [
      ⟨(some 4), (.mv (.const (.bool false))), none⟩])
     .ret)
    .skip))
  (.seq (.seq (.ops [
     ⟨(some 11), (.mv (.tmp 0)), none⟩, 
     ⟨(some 12), (.lenSl (.tmp 11)), none⟩, 
     ⟨(some 13), (.mv (.const (.int .i64 0))), none⟩])
    (.block 0
     (.loop
      (.seq (.ops [
        ⟨(some 14), (.bin .lss (.tmp 13) (.tmp 12)), none⟩])
       (.seq (.cond (.tmp 14)
         .skip
         (.exit 0))
        (.seq (.block 1
          (.seq (.ops [
            ⟨(some 15), (.mv (.tmp 13)), none⟩, 
            ⟨(some 5), (.mv (.tmp 15)), none⟩])
           (.seq (.any [16, 17, 18, 19, 20, 21, 22, 23, 24] [
             ⟨(some 16), (.mv (.tmp 0)), none⟩, 
             ⟨(some 17), (.mv (.tmp 5)), none⟩, 
             ⟨(some 18), (.idxSl 1 (.tmp 16) (.tmp 17)), none⟩, 
             ⟨(some 19), (.load1 (.tmp 18)), none⟩, 
             ⟨(some 20), (.mv (.tmp 1)), none⟩, 
             ⟨(some 21), (.mv (.tmp 5)), none⟩, 
             ⟨(some 22), (.idxSl 1 (.tmp 20) (.tmp 21)), none⟩, 
             ⟨(some 23), (.load1 (.tmp 22)), none⟩, 
             ⟨(some 24), (.bin .neq (.tmp 19) (.tmp 23)), none⟩])
            (.cond (.tmp 24)
             (.seq (.ops [
               ⟨(some 4), (.mv (.const (.bool false))), none⟩])
              .ret)
             .skip))))
         (.ops [
          ⟨(some 25), (.bin .add (.tmp 13) (.const (.int .i64 1))), none⟩, 
          ⟨(some 13), (.mv (.tmp 25)), none⟩])))))))
   (.seq (.ops [
     ⟨(some 4), (.mv (.const (.bool true))), none⟩])
    .ret))))
theorem c29 {args : Array Value} {h : Heap} {R : Ending → Heap → Prop} (ha : args.size ≤ 26) (hh : aexec Tryd.prog ac29 (abody [(.slot 4)] R) ⟨initFr args.toList, []⟩ h) : HCalls Tryd.prog 29 args h R :=
  hcalls_of Tryd.func29 rfl rfl (by kernel_rfl) (by kernel_rfl) ha hh
/-- 30: slices.EqualFunc[[]credenza/api.Data,[]credenza/api.Data,credenza/api.Data,credenza/api.Data] -/
def ac30 : ACode :=
 (.seq (.ops [
  ⟨(some 6), (.mv (.const (.bool false))), none⟩])
 (.seq (.seq (.ops [
    ⟨(some 10), (.mv (.tmp 0)), none⟩, 
    ⟨(some 11), (.lenSl (.tmp 10)), none⟩, 
    ⟨(some 12), (.mv (.tmp 1)), none⟩, 
    ⟨(some 13), (.lenSl (.tmp 12)), none⟩, 
    ⟨(some 14), (.bin .neq (.tmp 11) (.tmp 13)), none⟩])
   (.cond (.tmp 14)
    (.seq (.ops [
      ⟨(some 6), (.mv (.const (.bool false))), none⟩])
     .ret)
    .skip))
  (.seq (.seq (.ops [
     ⟨(some 15), (.mv (.tmp 0)), none⟩, 
     ⟨(some 16), (.lenSl (.tmp 15)), none⟩, 
     ⟨(some 17), (.mv (.const (.int .i64 0))), none⟩])
    (.block 0
     (.loop
      (.seq (.ops [
        ⟨(some 18), (.bin .lss (.tmp 17) (.tmp 16)), none⟩])
       (.seq (.cond (.tmp 18)
         .skip
         (.exit 0))
        (.seq (.block 1
          (.seq (.ops [
            ⟨(some 19), (.mv (.tmp 17)), none⟩, 
            ⟨(some 20), (.idxSl 5 (.tmp 15) (.tmp 17)), none⟩, 
            ⟨(some 21), (.loadN 5 (.tmp 20)), none⟩, 
            ⟨(some 8), (.new 25 [(.int .i64 0), (.int .i64 0), (.string ⟨#[]⟩), (.slice none 0 0), (.slice none 0 0)]), none⟩, 
            ⟨(some 7), (.mv (.tmp 19)), none⟩, 
            ⟨none, (.storeN 5 (.tmp 8) (.tmp 21)), none⟩])
           (.seq (.ops [
             ⟨(some 22), (.mv (.tmp 1)), none⟩, 
             ⟨(some 23), (.mv (.tmp 7)), none⟩, 
             ⟨(some 24), (.idxSl 5 (.tmp 22) (.tmp 23)), none⟩, 
             ⟨(some 25), (.loadN 5 (.tmp 24)), none⟩, 
             ⟨(some 9), (.new 25 [(.int .i64 0), (.int .i64 0), (.string ⟨#[]⟩), (.slice none 0 0), (.slice none 0 0)]), none⟩, 
             ⟨none, (.storeN 5 (.tmp 9) (.tmp 25)), none⟩])
            (.seq (.ops [
              ⟨(some 26), (.mv (.tmp 2)), none⟩, 
              ⟨(some 27), (.loadN 5 (.tmp 8)), none⟩, 
              ⟨(some 28), (.loadN 5 (.tmp 9)), none⟩, 
              ⟨(some 29), (.callV (.tmp 26) [(.tmp 27), (.tmp 28)]), none⟩, 
              ⟨(some 30), (.un .not (.tmp 29)), none⟩])
             (.cond (.tmp 30)
              (.seq (.ops [
                ⟨(some 6), (.mv (.const (.bool false))), none⟩])
               .ret)
              .skip)))))
         (.ops [
          ⟨(some 31), (.bin .add (.tmp 17) (.const (.int .i64 1))), none⟩, 
          ⟨(some 17), (.mv (.tmp 31)), none⟩])))))))
   (.seq (.ops [
     ⟨(some 6), (.mv (.const (.bool true))), none⟩])
    .ret))))
theorem c30 {args : Array Value} {h : Heap} {R : Ending → Heap → Prop} (ha : args.size ≤ 32) (hh : aexec Tryd.prog ac30 (abody [(.slot 6)] R) ⟨initFr args.toList, []⟩ h) : HCalls Tryd.prog 30 args h R :=
  hcalls_of Tryd.func30 rfl rfl (by kernel_rfl) (by kernel_rfl) ha hh
/-- 31: (*credenza/data.writer).value -/
def ac31 : ACode :=
 (.seq (.ops [
  ⟨(some 3), (.box 25 (.tmp 1)), none⟩])
 (.seq (.ops [
   ⟨(some 8), (.fieldAddr 0 (.tmp 3)), none⟩, 
   ⟨(some 9), (.load1 (.tmp 8)), none⟩])
  (.block 0
   (.seq (.ops [
     ⟨(some 43), (.bin .eql (.tmp 9) (.const (.int .i64 0))), none⟩, 
     ⟨(some 42), (.mv (.tmp 43)), none⟩])
    (.cond (.tmp 42)
     (.ops [
      ⟨(some 44), (.mv (.tmp 0)), none⟩, 
      ⟨(some 45), (.buildSlice 9 1 [(.string ⟨#[]⟩)] [(0, 1, (.const (.string ⟨#[117, 110, 100, 101, 102, 105, 110, 101, 100]⟩)))]), none⟩, 
      ⟨(some 46), (.callF 39 [(.tmp 44), (.tmp 45)]), none⟩])
     (.seq (.ops [
       ⟨(some 48), (.bin .eql (.tmp 9) (.const (.int .i64 1))), none⟩, 
       ⟨(some 47), (.mv (.tmp 48)), none⟩])
      (.cond (.tmp 47)
       (.ops [
        ⟨(some 49), (.mv (.tmp 0)), none⟩, 
        ⟨(some 50), (.buildSlice 9 1 [(.string ⟨#[]⟩)] [(0, 1, (.const (.string ⟨#[110, 117, 108, 108]⟩)))]), none⟩, 
        ⟨(some 51), (.callF 39 [(.tmp 49), (.tmp 50)]), none⟩])
       (.seq (.ops [
         ⟨(some 53), (.bin .eql (.tmp 9) (.const (.int .i64 2))), none⟩, 
         ⟨(some 52), (.mv (.tmp 53)), none⟩])
        (.cond (.tmp 52)
         (.ops [
          ⟨(some 54), (.mv (.tmp 0)), none⟩, 
          ⟨(some 55), (.fieldAddr 1 (.tmp 3)), none⟩, 
          ⟨(some 56), (.load1 (.tmp 55)), none⟩, 
          ⟨(some 57), (.bin .eql (.tmp 56) (.const (.int .i64 1))), none⟩, 
          ⟨(some 58), (.callF 40 [(.tmp 57)]), none⟩, 
          ⟨(some 59), (.buildSlice 9 1 [(.string ⟨#[]⟩)] [(0, 1, (.tmp 58))]), none⟩, 
          ⟨(some 60), (.callF 39 [(.tmp 54), (.tmp 59)]), none⟩])
         (.seq (.ops [
           ⟨(some 62), (.bin .eql (.tmp 9) (.const (.int .i64 3))), none⟩, 
           ⟨(some 61), (.mv (.tmp 62)), none⟩])
          (.cond (.tmp 61)
           (.ops [
            ⟨(some 63), (.mv (.tmp 0)), none⟩, 
            ⟨(some 64), (.fieldAddr 1 (.tmp 3)), none⟩, 
            ⟨(some 65), (.load1 (.tmp 64)), none⟩, 
            ⟨(some 66), (.callF 41 [(.tmp 65), (.const (.int .i64 10))]), none⟩, 
            ⟨(some 67), (.buildSlice 9 1 [(.string ⟨#[]⟩)] [(0, 1, (.tmp 66))]), none⟩, 
            ⟨(some 68), (.callF 39 [(.tmp 63), (.tmp 67)]), none⟩])
           (.seq (.ops [
             ⟨(some 70), (.bin .eql (.tmp 9) (.const (.int .i64 4))), none⟩, 
             ⟨(some 69), (.mv (.tmp 70)), none⟩])
            (.cond (.tmp 69)
             (.ops [
              ⟨(some 71), (.mv (.tmp 0)), none⟩, 
              ⟨(some 72), (.fieldAddr 2 (.tmp 3)), none⟩, 
              ⟨(some 73), (.load1 (.tmp 72)), none⟩, 
              ⟨(some 74), (.callF 42 [(.tmp 73)]), none⟩, 
              ⟨(some 75), (.buildSlice 9 1 [(.string ⟨#[]⟩)] [(0, 1, (.tmp 74))]), none⟩, 
              ⟨(some 76), (.callF 39 [(.tmp 71), (.tmp 75)]), none⟩])
             (.seq (.ops [
               ⟨(some 78), (.bin .eql (.tmp 9) (.const (.int .i64 5))), none⟩, 
               ⟨(some 77), (.mv (.tmp 78)), none⟩])
              (.cond (.tmp 77)
               (.seq (.ops [
                 ⟨(some 79), (.mv (.tmp 0)), none⟩, 
                 ⟨(some 80), (.buildSlice 9 1 [(.string ⟨#[]⟩)] [(0, 1, (.const (.string ⟨#[91]⟩)))]), none⟩, 
                 ⟨(some 81), (.callF 39 [(.tmp 79), (.tmp 80)]), none⟩])
                (.seq (.seq (.ops [
                   ⟨(some 82), (.fieldAddr 4 (.tmp 3)), none⟩, 
                   ⟨(some 83), (.load1 (.tmp 82)), none⟩, 
                   ⟨(some 84), (.lenSl (.tmp 83)), none⟩, 
                   ⟨(some 85), (.mv (.const (.int .i64 0))), none⟩])
                  (.block 3
                   (.loop
                    (.seq (.ops [
                      ⟨(some 86), (.bin .lss (.tmp 85) (.tmp 84)), none⟩])
                     (.seq (.cond (.tmp 86)
                       .skip
                       (.exit 3))
                      (.seq (.block 4
                        (.seq (.ops [
                          ⟨(some 87), (.mv (.tmp 85)), none⟩, 
                          ⟨(some 88), (.idxSl 5 (.tmp 83) (.tmp 85)), none⟩, 
                          ⟨(some 89), (.loadN 5 (.tmp 88)), none⟩, 
                          ⟨(some 5), (.new 25 [(.int .i64 0), (.int .i64 0), (.string ⟨#[]⟩), (.slice none 0 0), (.slice none 0 0)]), none⟩, 
                          ⟨(some 4), (.mv (.tmp 87)), none⟩, 
                          ⟨none, (.storeN 5 (.tmp 5) (.tmp 89)), none⟩])
                         (.seq (.seq (.ops [
                            ⟨(some 90), (.mv (.tmp 4)), none⟩, 
                            ⟨(some 91), (.bin .gtr (.tmp 90) (.const (.int .i64 0))), none⟩])
                           (.cond (.tmp 91)
                            (.ops [
                             ⟨(some 92), (.mv (.tmp 0)), none⟩, 
                             ⟨(some 93), (.buildSlice 9 1 [(.string ⟨#[]⟩)] [(0, 1, (.const (.string ⟨#[44]⟩)))]), none⟩, 
                             ⟨(some 94), (.callF 39 [(.tmp 92), (.tmp 93)]), none⟩])
                            .skip))
                          (.ops [
                           ⟨(some 95), (.mv (.tmp 0)), none⟩, 
                           ⟨(some 96), (.loadN 5 (.tmp 5)), none⟩, 
                           ⟨(some 97), (.callF 31 [(.tmp 95), (.tmp 96)]), none⟩]))))
                       (.ops [
                        ⟨(some 98), (.bin .add (.tmp 85) (.const (.int .i64 1))), none⟩, 
                        ⟨(some 85), (.mv (.tmp 98)), none⟩])))))))
                 (.ops [
                  ⟨(some 99), (.mv (.tmp 0)), none⟩, 
                  ⟨(some 100), (.buildSlice 9 1 [(.string ⟨#[]⟩)] [(0, 1, (.const (.string ⟨#[93]⟩)))]), none⟩, 
                  ⟨(some 101), (.callF 39 [(.tmp 99), (.tmp 100)]), none⟩])))
               (.seq (.ops [
                 ⟨(some 10), (.mv (.tmp 0)), none⟩, 
                 ⟨(some 11), (.buildSlice 9 1 [(.string ⟨#[]⟩)] [(0, 1, (.const (.string ⟨#[123]⟩)))]), none⟩, 
                 ⟨(some 12), (.callF 39 [(.tmp 10), (.tmp 11)]), none⟩])
                (.seq (.seq (.ops [
                   ⟨(some 13), (.fieldAddr 4 (.tmp 3)), none⟩, 
                   ⟨(some 14), (.load1 (.tmp 13)), none⟩, 
                   ⟨(some 15), (.lenSl (.tmp 14)), none⟩, 
                   ⟨(some 16), (.mv (.const (.int .i64 0))), none⟩])
                  (.block 1
                   (.loop
                    (.seq (.ops [
                      ⟨(some 17), (.bin .lss (.tmp 16) (.tmp 15)), none⟩])
                     (.seq (.cond (.tmp 17)
                       .skip
                       (.exit 1))
                      (.seq (.block 2
                        (.seq (.ops [
                          ⟨(some 18), (.mv (.tmp 16)), none⟩, 
                          ⟨(some 19), (.idxSl 5 (.tmp 14) (.tmp 16)), none⟩, 
                          ⟨(some 20), (.loadN 5 (.tmp 19)), none⟩, 
                          ⟨(some 7), (.new 25 [(.int .i64 0), (.int .i64 0), (.string ⟨#[]⟩), (.slice none 0 0), (.slice none 0 0)]), none⟩, 
                          ⟨(some 6), (.mv (.tmp 18)), none⟩, 
                          ⟨none, (.storeN 5 (.tmp 7) (.tmp 20)), none⟩])
                         (.seq (.seq (.ops [
                            ⟨(some 21), (.mv (.tmp 6)), none⟩, 
                            ⟨(some 22), (.bin .gtr (.tmp 21) (.const (.int .i64 0))), none⟩])
                           (.cond (.tmp 22)
                            (.ops [
                             ⟨(some 23), (.mv (.tmp 0)), none⟩, 
                             ⟨(some 24), (.buildSlice 9 1 [(.string ⟨#[]⟩)] [(0, 1, (.const (.string ⟨#[44]⟩)))]), none⟩, 
                             ⟨(some 25), (.callF 39 [(.tmp 23), (.tmp 24)]), none⟩])
                            .skip))
                          (.seq (.ops [
                            ⟨(some 26), (.mv (.tmp 0)), none⟩, 
                            ⟨(some 27), (.fieldAddr 3 (.tmp 3)), none⟩, 
                            ⟨(some 28), (.load1 (.tmp 27)), none⟩, 
                            ⟨(some 29), (.mv (.tmp 6)), none⟩, 
                            ⟨(some 30), (.idxSl 1 (.tmp 28) (.tmp 29)), none⟩, 
                            ⟨(some 31), (.load1 (.tmp 30)), none⟩, 
                            ⟨(some 32), (.callF 42 [(.tmp 31)]), none⟩, 
                            ⟨(some 33), (.buildSlice 9 2 [(.string ⟨#[]⟩), (.string ⟨#[]⟩)] [(0, 1, (.tmp 32)), (1, 1, (.const (.string ⟨#[58]⟩)))]), none⟩, 
                            ⟨(some 34), (.callF 39 [(.tmp 26), (.tmp 33)]), none⟩])
                           (.ops [
                            ⟨(some 35), (.mv (.tmp 0)), none⟩, 
                            ⟨(some 36), (.loadN 5 (.tmp 7)), none⟩, 
                            ⟨(some 37), (.callF 31 [(.tmp 35), (.tmp 36)]), none⟩])))))
                       (.ops [
                        ⟨(some 38), (.bin .add (.tmp 16) (.const (.int .i64 1))), none⟩, 
                        ⟨(some 16), (.mv (.tmp 38)), none⟩])))))))
                 (.ops [
                  ⟨(some 39), (.mv (.tmp 0)), none⟩, 
                  ⟨(some 40), (.buildSlice 9 1 [(.string ⟨#[]⟩)] [(0, 1, (.const (.string ⟨#[125]⟩)))]), none⟩, 
                  ⟨(some 41), (.callF 39 [(.tmp 39), (.tmp 40)]), none⟩]))))))))))))))))))
theorem c31 {args : Array Value} {h : Heap} {R : Ending → Heap → Prop} (ha : args.size ≤ 102) (hh : aexec Tryd.prog ac31 (abody [] R) ⟨initFr args.toList, []⟩ h) : HCalls Tryd.prog 31 args h R :=
  hcalls_of Tryd.func31 rfl rfl (by kernel_rfl) (by kernel_rfl) ha hh
/-- 32: (*strings.Builder).String -/
def ac32 : ACode :=
 (.seq (.ops [
  ⟨(some 2), (.mv (.const (.string ⟨#[]⟩))), none⟩])
 (.seq (.seq (.any [3, 4, 5, 6, 7, 8, 9, 10, 11, 12, 13, 2] [
    ⟨(some 3), (.mv (.tmp 0)), none⟩, 
    ⟨(some 4), (.nilCheck (.tmp 3)), none⟩, 
    ⟨(some 5), (.fieldAddr 1 (.tmp 4)), none⟩, 
    ⟨(some 6), (.load1 (.tmp 5)), none⟩, 
    ⟨(some 8), (.mv (.tmp 0)), none⟩, 
    ⟨(some 9), (.nilCheck (.tmp 8)), none⟩, 
    ⟨(some 10), (.fieldAddr 1 (.tmp 9)), none⟩])
   (.alt
    (.any [3, 4, 5, 6, 7, 8, 9, 10, 11, 12, 13, 2] [
     ⟨(some 7), (.sldata (.tmp 6)), none⟩, 
     ⟨(some 11), (.load1 (.tmp 10)), none⟩, 
     ⟨(some 12), (.lenSl (.tmp 11)), none⟩, 
     ⟨(some 13), (.ustr 5 (.tmp 7) (.tmp 12)), none⟩, 
     ⟨(some 2), (.mv (.tmp 13)), none⟩])
    (.any [3, 4, 5, 6, 7, 8, 9, 10, 11, 12, 13, 2] [
     ⟨(some 11), (.load1 (.tmp 10)), none⟩, 
     ⟨(some 12), (.lenSl (.tmp 11)), none⟩, 
     ⟨(some 7), (.sldata (.tmp 6)), none⟩, 
     ⟨(some 13), (.ustr 5 (.tmp 7) (.tmp 12)), none⟩, 
     ⟨(some 2), (.mv (.tmp 13)), none⟩])))
  .ret))
theorem c32 {args : Array Value} {h : Heap} {R : Ending → Heap → Prop} (ha : args.size ≤ 14) (hh : aexec Tryd.prog ac32 (abody [(.slot 2)] R) ⟨initFr args.toList, []⟩ h) : HCalls Tryd.prog 32 args h R :=
  hcalls_of Tryd.func32 rfl rfl (by kernel_rfl) (by kernel_rfl) ha hh
/-- 33: credenza/credenzaref03.text -/
def ac33 : ACode :=
 (.seq (.ops [
  ⟨(some 1), (.box 25 (.tmp 0)), none⟩, 
  ⟨(some 2), (.mv (.const (.string ⟨#[]⟩))), none⟩])
 (.seq (.seq (.ops [
    ⟨(some 10), (.fieldAddr 0 (.tmp 1)), none⟩, 
    ⟨(some 11), (.load1 (.tmp 10)), none⟩])
   (.block 0
    (.seq (.ops [
      ⟨(some 13), (.bin .eql (.tmp 11) (.const (.int .i64 0))), none⟩, 
      ⟨(some 12), (.mv (.tmp 13)), none⟩])
     (.cond (.tmp 12)
      (.seq (.ops [
        ⟨(some 2), (.mv (.const (.string ⟨#[117, 110, 100, 101, 102, 105, 110, 101, 100]⟩))), none⟩])
       .ret)
      (.seq (.ops [
        ⟨(some 15), (.bin .eql (.tmp 11) (.const (.int .i64 1))), none⟩, 
        ⟨(some 14), (.mv (.tmp 15)), none⟩])
       (.cond (.tmp 14)
        (.seq (.ops [
          ⟨(some 2), (.mv (.const (.string ⟨#[110, 117, 108, 108]⟩))), none⟩])
         .ret)
        (.seq (.ops [
          ⟨(some 17), (.bin .eql (.tmp 11) (.const (.int .i64 2))), none⟩, 
          ⟨(some 16), (.mv (.tmp 17)), none⟩])
         (.cond (.tmp 16)
          (.seq (.seq (.ops [
             ⟨(some 18), (.fieldAddr 1 (.tmp 1)), none⟩, 
             ⟨(some 19), (.load1 (.tmp 18)), none⟩, 
             ⟨(some 20), (.bin .eql (.tmp 19) (.const (.int .i64 0))), none⟩])
            (.cond (.tmp 20)
             (.seq (.ops [
               ⟨(some 2), (.mv (.const (.string ⟨#[102, 97, 108, 115, 101]⟩))), none⟩])
              .ret)
             .skip))
           (.seq (.ops [
             ⟨(some 2), (.mv (.const (.string ⟨#[116, 114, 117, 101]⟩))), none⟩])
            .ret))
          (.seq (.ops [
            ⟨(some 22), (.bin .eql (.tmp 11) (.const (.int .i64 3))), none⟩, 
            ⟨(some 21), (.mv (.tmp 22)), none⟩])
           (.cond (.tmp 21)
            (.seq (.ops [
              ⟨(some 23), (.fieldAddr 1 (.tmp 1)), none⟩, 
              ⟨(some 24), (.load1 (.tmp 23)), none⟩, 
              ⟨(some 25), (.callF 43 [(.tmp 24)]), none⟩, 
              ⟨(some 2), (.mv (.tmp 25)), none⟩])
             .ret)
            (.seq (.ops [
              ⟨(some 27), (.bin .eql (.tmp 11) (.const (.int .i64 4))), none⟩, 
              ⟨(some 26), (.mv (.tmp 27)), none⟩])
             (.cond (.tmp 26)
              (.seq (.ops [
                ⟨(some 29), (.fieldAddr 2 (.tmp 1)), none⟩, 
                ⟨(some 30), (.load1 (.tmp 29)), none⟩, 
                ⟨(some 31), (.callF 44 [(.tmp 30)]), none⟩, 
                ⟨(some 28), (.mv (.tmp 31)), none⟩, 
                ⟨(some 32), (.extract (.tmp 28) 0), none⟩, 
                ⟨(some 33), (.extract (.tmp 28) 1), none⟩, 
                ⟨(some 3), (.mv (.tmp 32)), none⟩, 
                ⟨(some 4), (.mv (.tmp 33)), none⟩])
               (.seq (.ops [
                 ⟨(some 34), (.mv (.tmp 3)), none⟩, 
                 ⟨(some 2), (.mv (.tmp 34)), none⟩])
                .ret))
              .skip))))))))))))
  (.seq (.ops [
    ⟨(some 5), (.mv (.const (.string ⟨#[]⟩))), none⟩])
   (.seq (.seq (.ops [
      ⟨(some 35), (.fieldAddr 4 (.tmp 1)), none⟩, 
      ⟨(some 36), (.load1 (.tmp 35)), none⟩, 
      ⟨(some 37), (.lenSl (.tmp 36)), none⟩, 
      ⟨(some 38), (.mv (.const (.int .i64 0))), none⟩])
     (.block 1
      (.loop
       (.seq (.ops [
         ⟨(some 39), (.bin .lss (.tmp 38) (.tmp 37)), none⟩])
        (.seq (.cond (.tmp 39)
          .skip
          (.exit 1))
         (.seq (.block 2
           (.seq (.ops [
             ⟨(some 40), (.mv (.tmp 38)), none⟩, 
             ⟨(some 41), (.idxSl 5 (.tmp 36) (.tmp 38)), none⟩, 
             ⟨(some 42), (.loadN 5 (.tmp 41)), none⟩, 
             ⟨(some 7), (.new 25 [(.int .i64 0), (.int .i64 0), (.string ⟨#[]⟩), (.slice none 0 0), (.slice none 0 0)]), none⟩, 
             ⟨(some 6), (.mv (.tmp 40)), none⟩, 
             ⟨none, (.storeN 5 (.tmp 7) (.tmp 42)), none⟩])
            (.seq (.seq (.ops [
               ⟨(some 43), (.mv (.tmp 6)), none⟩, 
               ⟨(some 44), (.bin .gtr (.tmp 43) (.const (.int .i64 0))), none⟩])
              (.cond (.tmp 44)
               (.ops [
                ⟨(some 45), (.mv (.tmp 5)), none⟩, 
                ⟨(some 46), (.bin .add (.tmp 45) (.const (.string ⟨#[44]⟩))), none⟩, 
                ⟨(some 5), (.mv (.tmp 46)), none⟩])
               .skip))
             (.seq (.seq (.ops [
                ⟨(some 47), (.fieldAddr 0 (.tmp 1)), none⟩, 
                ⟨(some 48), (.load1 (.tmp 47)), none⟩, 
                ⟨(some 49), (.bin .eql (.tmp 48) (.const (.int .i64 6))), none⟩])
               (.cond (.tmp 49)
                (.seq (.ops [
                  ⟨(some 51), (.fieldAddr 3 (.tmp 1)), none⟩, 
                  ⟨(some 52), (.load1 (.tmp 51)), none⟩, 
                  ⟨(some 53), (.mv (.tmp 6)), none⟩, 
                  ⟨(some 54), (.idxSl 1 (.tmp 52) (.tmp 53)), none⟩, 
                  ⟨(some 55), (.load1 (.tmp 54)), none⟩, 
                  ⟨(some 56), (.callF 44 [(.tmp 55)]), none⟩, 
                  ⟨(some 50), (.mv (.tmp 56)), none⟩, 
                  ⟨(some 57), (.extract (.tmp 50) 0), none⟩, 
                  ⟨(some 58), (.extract (.tmp 50) 1), none⟩, 
                  ⟨(some 8), (.mv (.tmp 57)), none⟩, 
                  ⟨(some 9), (.mv (.tmp 58)), none⟩])
                 (.ops [
                  ⟨(some 59), (.mv (.tmp 5)), none⟩, 
                  ⟨(some 60), (.mv (.tmp 8)), none⟩, 
                  ⟨(some 61), (.bin .add (.tmp 60) (.const (.string ⟨#[58]⟩))), none⟩, 
                  ⟨(some 62), (.bin .add (.tmp 59) (.tmp 61)), none⟩, 
                  ⟨(some 5), (.mv (.tmp 62)), none⟩]))
                .skip))
              (.ops [
               ⟨(some 63), (.mv (.tmp 5)), none⟩, 
               ⟨(some 64), (.loadN 5 (.tmp 7)), none⟩, 
               ⟨(some 65), (.callF 33 [(.tmp 64)]), none⟩, 
               ⟨(some 66), (.bin .add (.tmp 63) (.tmp 65)), none⟩, 
               ⟨(some 5), (.mv (.tmp 66)), none⟩])))))
          (.ops [
           ⟨(some 67), (.bin .add (.tmp 38) (.const (.int .i64 1))), none⟩, 
           ⟨(some 38), (.mv (.tmp 67)), none⟩])))))))
    (.seq (.seq (.ops [
       ⟨(some 68), (.fieldAddr 0 (.tmp 1)), none⟩, 
       ⟨(some 69), (.load1 (.tmp 68)), none⟩, 
       ⟨(some 70), (.bin .eql (.tmp 69) (.const (.int .i64 6))), none⟩])
      (.cond (.tmp 70)
       (.seq (.ops [
         ⟨(some 71), (.mv (.tmp 5)), none⟩, 
         ⟨(some 72), (.bin .add (.const (.string ⟨#[123]⟩)) (.tmp 71)), none⟩, 
         ⟨(some 73), (.bin .add (.tmp 72) (.const (.string ⟨#[125]⟩))), none⟩, 
         ⟨(some 2), (.mv (.tmp 73)), none⟩])
        .ret)
       .skip))
     (.seq (.ops [
       ⟨(some 74), (.mv (.tmp 5)), none⟩, 
       ⟨(some 75), (.bin .add (.const (.string ⟨#[91]⟩)) (.tmp 74)), none⟩, 
       ⟨(some 76), (.bin .add (.tmp 75) (.const (.string ⟨#[93]⟩))), none⟩, 
       ⟨(some 2), (.mv (.tmp 76)), none⟩])
      .ret))))))
theorem c33 {args : Array Value} {h : Heap} {R : Ending → Heap → Prop} (ha : args.size ≤ 77) (hh : aexec Tryd.prog ac33 (abody [(.slot 2)] R) ⟨initFr args.toList, []⟩ h) : HCalls Tryd.prog 33 args h R :=
  hcalls_of Tryd.func33 rfl rfl (by kernel_rfl) (by kernel_rfl) ha hh
/-- 34: slices.Clone[[]string,string] -/
def ac34 : ACode :=
 (.seq (.ops [
  ⟨(some 2), (.mv (.const (.slice none 0 0))), none⟩])
 (.seq (.seq (.ops [
    ⟨(some 3), (.mv (.tmp 0)), none⟩, 
    ⟨(some 4), (.isNil 2 false (.tmp 3)), none⟩])
   (.cond (.tmp 4)
    (.seq (.ops [
      ⟨(some 2), (.mv (.const (.slice none 0 0))), none⟩])
     .ret)
    .skip))
  (.seq (.ops [
    ⟨(some 5), (.buildSlice 9 0 [] []), none⟩, 
    ⟨(some 6), (.mv (.tmp 0)), none⟩, 
    ⟨(some 7), (.append 9 1 16 [(.string ⟨#[]⟩)] (.tmp 5) (.tmp 6)), none⟩, 
    ⟨(some 2), (.mv (.tmp 7)), none⟩])
   .ret)))
theorem c34 {args : Array Value} {h : Heap} {R : Ending → Heap → Prop} (ha : args.size ≤ 8) (hh : aexec Tryd.prog ac34 (abody [(.slot 2)] R) ⟨initFr args.toList, []⟩ h) : HCalls Tryd.prog 34 args h R :=
  hcalls_of Tryd.func34 rfl rfl (by kernel_rfl) (by kernel_rfl) ha hh
/-- 35: slices.Clone[[]credenza/api.Data,credenza/api.Data] -/
def ac35 : ACode :=
 (.seq (.ops [
  ⟨(some 2), (.mv (.const (.slice none 0 0))), none⟩])
 (.seq (.seq (.ops [
    ⟨(some 3), (.mv (.tmp 0)), none⟩, 
    ⟨(some 4), (.isNil 2 false (.tmp 3)), none⟩])
   (.cond (.tmp 4)
    (.seq (.ops [
      ⟨(some 2), (.mv (.const (.slice none 0 0))), none⟩])
     .ret)
    .skip))
  (.seq (.ops [
    ⟨(some 5), (.buildSlice 25 0 [] []), none⟩, 
    ⟨(some 6), (.mv (.tmp 0)), none⟩, 
    ⟨(some 7), (.append 25 5 80 [(.int .i64 0), (.int .i64 0), (.string ⟨#[]⟩), (.slice none 0 0), (.slice none 0 0)] (.tmp 5) (.tmp 6)), none⟩, 
    ⟨(some 2), (.mv (.tmp 7)), none⟩])
   .ret)))
theorem c35 {args : Array Value} {h : Heap} {R : Ending → Heap → Prop} (ha : args.size ≤ 8) (hh : aexec Tryd.prog ac35 (abody [(.slot 2)] R) ⟨initFr args.toList, []⟩ h) : HCalls Tryd.prog 35 args h R :=
  hcalls_of Tryd.func35 rfl rfl (by kernel_rfl) (by kernel_rfl) ha hh
/-- 36: credenza/units.Check -/
def ac36 : ACode :=
 (.seq (.ops [
  ⟨(some 2), (.mv (.const (.bool false))), none⟩])
 (.seq (.ops [
   ⟨(some 3), (.mv (.tmp 0)), none⟩, 
   ⟨(some 4), (.lenStr (.tmp 3)), none⟩, 
   ⟨(some 5), (.bin .and (.tmp 4) (.const (.int .i64 1))), none⟩, 
   ⟨(some 6), (.bin .eql (.tmp 5) (.const (.int .i64 0))), none⟩, 
   ⟨(some 2), (.mv (.tmp 6)), none⟩])
  .ret))
theorem c36 {args : Array Value} {h : Heap} {R : Ending → Heap → Prop} (ha : args.size ≤ 7) (hh : aexec Tryd.prog ac36 (abody [(.slot 2)] R) ⟨initFr args.toList, []⟩ h) : HCalls Tryd.prog 36 args h R :=
  hcalls_of Tryd.func36 rfl rfl (by kernel_rfl) (by kernel_rfl) ha hh
/-- 37: credenza/data.names -/
def ac37 : ACode :=
 (.seq (.ops [
  ⟨(some 1), (.box 25 (.tmp 0)), none⟩, 
  ⟨(some 2), (.mv (.const (.bool false))), none⟩])
 (.seq (.ops [
   ⟨(some 6), .mkMap, none⟩, 
   ⟨(some 3), (.mv (.tmp 6)), none⟩])
  (.seq (.seq (.ops [
     ⟨(some 7), (.fieldAddr 3 (.tmp 1)), none⟩, 
     ⟨(some 8), (.load1 (.tmp 7)), none⟩, 
     ⟨(some 9), (.lenSl (.tmp 8)), none⟩, 
     ⟨(some 10), (.mv (.const (.int .i64 0))), none⟩])
    (.block 0
     (.loop
      (.seq (.ops [
        ⟨(some 11), (.bin .lss (.tmp 10) (.tmp 9)), none⟩])
       (.seq (.cond (.tmp 11)
         .skip
         (.exit 0))
        (.seq (.block 1
          (.seq (.ops [
            ⟨(some 12), (.idxSl 1 (.tmp 8) (.tmp 10)), none⟩, 
            ⟨(some 13), (.load1 (.tmp 12)), none⟩, 
            ⟨(some 5), (.mv (.tmp 13)), none⟩])
           (.seq (.seq (.ops [
              ⟨(some 14), (.mv (.tmp 5)), none⟩, 
              ⟨(some 15), (.callF 36 [(.tmp 14)]), none⟩, 
              ⟨(some 16), (.un .not (.tmp 15)), none⟩])
             (.cond (.tmp 16)
              (.seq (.ops [
                ⟨(some 2), (.mv (.const (.bool false))), none⟩])
               .ret)
              .skip))
            (.ops [
             ⟨(some 17), (.mv (.tmp 3)), none⟩, 
             ⟨(some 18), (.mv (.tmp 5)), none⟩, 
             ⟨(some 19), (.lookMap .string (.int .i64 0) false (.tmp 17) (.tmp 18)), none⟩, 
             ⟨(some 20), (.bin .add (.tmp 19) (.const (.int .i64 1))), none⟩, 
             ⟨none, (.setMap .string (.tmp 17) (.tmp 18) (.tmp 20)), none⟩]))))
         (.ops [
          ⟨(some 21), (.bin .add (.tmp 10) (.const (.int .i64 1))), none⟩, 
          ⟨(some 10), (.mv (.tmp 21)), none⟩])))))))
   (.seq (.ops [
     ⟨(some 22), (.mv (.tmp 3)), none⟩, 
     ⟨(some 23), (.lenMap (.tmp 22)), none⟩, 
     ⟨(some 24), (.fieldAddr 3 (.tmp 1)), none⟩, 
     ⟨(some 25), (.load1 (.tmp 24)), none⟩, 
     ⟨(some 26), (.lenSl (.tmp 25)), none⟩, 
     ⟨(some 27), (.bin .eql (.tmp 23) (.tmp 26)), none⟩, 
     ⟨(some 28), (.mv (.tmp 27)), none⟩, 
     ⟨(some 29), (.fieldAddr 3 (.tmp 1)), (some (28, true))⟩, 
     ⟨(some 30), (.load1 (.tmp 29)), (some (28, true))⟩, 
     ⟨(some 31), (.lenSl (.tmp 30)), (some (28, true))⟩, 
     ⟨(some 32), (.fieldAddr 4 (.tmp 1)), (some (28, true))⟩, 
     ⟨(some 33), (.load1 (.tmp 32)), (some (28, true))⟩, 
     ⟨(some 34), (.lenSl (.tmp 33)), (some (28, true))⟩, 
     ⟨(some 35), (.bin .eql (.tmp 31) (.tmp 34)), (some (28, true))⟩, 
     ⟨(some 36), (.pick (.tmp 28) (.tmp 35) (.const (.bool false))), none⟩, 
     ⟨(some 2), (.mv (.tmp 36)), none⟩])
    .ret))))
theorem c37 {args : Array Value} {h : Heap} {R : Ending → Heap → Prop} (ha : args.size ≤ 37) (hh : aexec Tryd.prog ac37 (abody [(.slot 2)] R) ⟨initFr args.toList, []⟩ h) : HCalls Tryd.prog 37 args h R :=
  hcalls_of Tryd.func37 rfl rfl (by kernel_rfl) (by kernel_rfl) ha hh
/-- 38: credenza/credenzaref03.own -/
def ac38 : ACode :=
 (.seq (.ops [
  ⟨(some 1), (.box 25 (.tmp 0)), none⟩, 
  ⟨(some 2), (.mv (.const (.bool false))), none⟩])
 (.seq (.seq (.ops [
    ⟨(some 3), (.fieldAddr 0 (.tmp 1)), none⟩, 
    ⟨(some 4), (.load1 (.tmp 3)), none⟩])
   (.block 0
    (.seq (.seq (.ops [
       ⟨(some 6), (.bin .eql (.tmp 4) (.const (.int .i64 0))), none⟩, 
       ⟨(some 5), (.mv (.tmp 6)), none⟩])
      (.cond (.tmp 5)
       .skip
       (.ops [
        ⟨(some 7), (.bin .eql (.tmp 4) (.const (.int .i64 1))), none⟩, 
        ⟨(some 5), (.mv (.tmp 7)), none⟩])))
     (.cond (.tmp 5)
      (.seq (.ops [
        ⟨(some 8), (.fieldAddr 1 (.tmp 1)), none⟩, 
        ⟨(some 9), (.load1 (.tmp 8)), none⟩, 
        ⟨(some 10), (.bin .eql (.tmp 9) (.const (.int .i64 0))), none⟩, 
        ⟨(some 11), (.mv (.tmp 10)), none⟩, 
        ⟨(some 12), (.fieldAddr 2 (.tmp 1)), (some (11, true))⟩, 
        ⟨(some 13), (.load1 (.tmp 12)), (some (11, true))⟩, 
        ⟨(some 14), (.bin .eql (.tmp 13) (.const (.string ⟨#[]⟩))), (some (11, true))⟩, 
        ⟨(some 15), (.pick (.tmp 11) (.tmp 14) (.const (.bool false))), none⟩, 
        ⟨(some 16), (.mv (.tmp 15)), none⟩, 
        ⟨(some 17), (.fieldAddr 3 (.tmp 1)), (some (16, true))⟩, 
        ⟨(some 18), (.load1 (.tmp 17)), (some (16, true))⟩, 
        ⟨(some 19), (.lenSl (.tmp 18)), (some (16, true))⟩, 
        ⟨(some 20), (.bin .eql (.tmp 19) (.const (.int .i64 0))), (some (16, true))⟩, 
        ⟨(some 21), (.pick (.tmp 16) (.tmp 20) (.const (.bool false))), none⟩, 
        ⟨(some 22), (.mv (.tmp 21)), none⟩, 
        ⟨(some 23), (.fieldAddr 4 (.tmp 1)), (some (22, true))⟩, 
        ⟨(some 24), (.load1 (.tmp 23)), (some (22, true))⟩, 
        ⟨(some 25), (.lenSl (.tmp 24)), (some (22, true))⟩, 
        ⟨(some 26), (.bin .eql (.tmp 25) (.const (.int .i64 0))), (some (22, true))⟩, 
        ⟨(some 27), (.pick (.tmp 22) (.tmp 26) (.const (.bool false))), none⟩, 
        ⟨(some 2), (.mv (.tmp 27)), none⟩])
       .ret)
      (.seq (.ops [
        ⟨(some 29), (.bin .eql (.tmp 4) (.const (.int .i64 2))), none⟩, 
        ⟨(some 28), (.mv (.tmp 29)), none⟩])
       (.cond (.tmp 28)
        (.seq (.ops [
          ⟨(some 30), (.fieldAddr 1 (.tmp 1)), none⟩, 
          ⟨(some 31), (.load1 (.tmp 30)), none⟩, 
          ⟨(some 32), (.bin .eql (.tmp 31) (.const (.int .i64 0))), none⟩, 
          ⟨(some 33), (.mv (.tmp 32)), none⟩, 
          ⟨(some 34), (.fieldAddr 1 (.tmp 1)), (some (33, false))⟩, 
          ⟨(some 35), (.load1 (.tmp 34)), (some (33, false))⟩, 
          ⟨(some 36), (.bin .eql (.tmp 35) (.const (.int .i64 1))), (some (33, false))⟩, 
          ⟨(some 37), (.pick (.tmp 33) (.const (.bool true)) (.tmp 36)), none⟩, 
          ⟨(some 38), (.mv (.tmp 37)), none⟩, 
          ⟨(some 39), (.fieldAddr 2 (.tmp 1)), (some (38, true))⟩, 
          ⟨(some 40), (.load1 (.tmp 39)), (some (38, true))⟩, 
          ⟨(some 41), (.bin .eql (.tmp 40) (.const (.string ⟨#[]⟩))), (some (38, true))⟩, 
          ⟨(some 42), (.pick (.tmp 38) (.tmp 41) (.const (.bool false))), none⟩, 
          ⟨(some 43), (.mv (.tmp 42)), none⟩, 
          ⟨(some 44), (.fieldAddr 3 (.tmp 1)), (some (43, true))⟩, 
          ⟨(some 45), (.load1 (.tmp 44)), (some (43, true))⟩, 
          ⟨(some 46), (.lenSl (.tmp 45)), (some (43, true))⟩, 
          ⟨(some 47), (.bin .eql (.tmp 46) (.const (.int .i64 0))), (some (43, true))⟩, 
          ⟨(some 48), (.pick (.tmp 43) (.tmp 47) (.const (.bool false))), none⟩, 
          ⟨(some 49), (.mv (.tmp 48)), none⟩, 
          ⟨(some 50), (.fieldAddr 4 (.tmp 1)), (some (49, true))⟩, 
          ⟨(some 51), (.load1 (.tmp 50)), (some (49, true))⟩, 
          ⟨(some 52), (.lenSl (.tmp 51)), (some (49, true))⟩, 
          ⟨(some 53), (.bin .eql (.tmp 52) (.const (.int .i64 0))), (some (49, true))⟩, 
          ⟨(some 54), (.pick (.tmp 49) (.tmp 53) (.const (.bool false))), none⟩, 
          ⟨(some 2), (.mv (.tmp 54)), none⟩])
         .ret)
        (.seq (.ops [
          ⟨(some 56), (.bin .eql (.tmp 4) (.const (.int .i64 3))), none⟩, 
          ⟨(some 55), (.mv (.tmp 56)), none⟩])
         (.cond (.tmp 55)
          (.seq (.ops [
            ⟨(some 57), (.fieldAddr 1 (.tmp 1)), none⟩, 
            ⟨(some 58), (.load1 (.tmp 57)), none⟩, 
            ⟨(some 59), (.bin .geq (.tmp 58) (.const (.int .i64 (-9007199254740991)))), none⟩, 
            ⟨(some 60), (.mv (.tmp 59)), none⟩, 
            ⟨(some 61), (.fieldAddr 1 (.tmp 1)), (some (60, true))⟩, 
            ⟨(some 62), (.load1 (.tmp 61)), (some (60, true))⟩, 
            ⟨(some 63), (.bin .leq (.tmp 62) (.const (.int .i64 9007199254740991))), (some (60, true))⟩, 
            ⟨(some 64), (.pick (.tmp 60) (.tmp 63) (.const (.bool false))), none⟩, 
            ⟨(some 65), (.mv (.tmp 64)), none⟩, 
            ⟨(some 66), (.fieldAddr 2 (.tmp 1)), (some (65, true))⟩, 
            ⟨(some 67), (.load1 (.tmp 66)), (some (65, true))⟩, 
            ⟨(some 68), (.bin .eql (.tmp 67) (.const (.string ⟨#[]⟩))), (some (65, true))⟩, 
            ⟨(some 69), (.pick (.tmp 65) (.tmp 68) (.const (.bool false))), none⟩, 
            ⟨(some 70), (.mv (.tmp 69)), none⟩, 
            ⟨(some 71), (.fieldAddr 3 (.tmp 1)), (some (70, true))⟩, 
            ⟨(some 72), (.load1 (.tmp 71)), (some (70, true))⟩, 
            ⟨(some 73), (.lenSl (.tmp 72)), (some (70, true))⟩, 
            ⟨(some 74), (.bin .eql (.tmp 73) (.const (.int .i64 0))), (some (70, true))⟩, 
            ⟨(some 75), (.pick (.tmp 70) (.tmp 74) (.const (.bool false))), none⟩, 
            ⟨(some 76), (.mv (.tmp 75)), none⟩, 
            ⟨(some 77), (.fieldAddr 4 (.tmp 1)), (some (76, true))⟩, 
            ⟨(some 78), (.load1 (.tmp 77)), (some (76, true))⟩, 
            ⟨(some 79), (.lenSl (.tmp 78)), (some (76, true))⟩, 
            ⟨(some 80), (.bin .eql (.tmp 79) (.const (.int .i64 0))), (some (76, true))⟩, 
            ⟨(some 81), (.pick (.tmp 76) (.tmp 80) (.const (.bool false))), none⟩, 
            ⟨(some 2), (.mv (.tmp 81)), none⟩])
           .ret)
          (.seq (.ops [
            ⟨(some 83), (.bin .eql (.tmp 4) (.const (.int .i64 4))), none⟩, 
            ⟨(some 82), (.mv (.tmp 83)), none⟩])
           (.cond (.tmp 82)
            (.seq (.ops [
              ⟨(some 84), (.fieldAddr 1 (.tmp 1)), none⟩, 
              ⟨(some 85), (.load1 (.tmp 84)), none⟩, 
              ⟨(some 86), (.bin .eql (.tmp 85) (.const (.int .i64 0))), none⟩, 
              ⟨(some 87), (.mv (.tmp 86)), none⟩, 
              ⟨(some 88), (.fieldAddr 2 (.tmp 1)), (some (87, true))⟩, 
              ⟨(some 89), (.load1 (.tmp 88)), (some (87, true))⟩, 
              ⟨(some 90), (.callF 45 [(.tmp 89)]), (some (87, true))⟩, 
              ⟨(some 91), (.pick (.tmp 87) (.tmp 90) (.const (.bool false))), none⟩, 
              ⟨(some 92), (.mv (.tmp 91)), none⟩, 
              ⟨(some 93), (.fieldAddr 3 (.tmp 1)), (some (92, true))⟩, 
              ⟨(some 94), (.load1 (.tmp 93)), (some (92, true))⟩, 
              ⟨(some 95), (.lenSl (.tmp 94)), (some (92, true))⟩, 
              ⟨(some 96), (.bin .eql (.tmp 95) (.const (.int .i64 0))), (some (92, true))⟩, 
              ⟨(some 97), (.pick (.tmp 92) (.tmp 96) (.const (.bool false))), none⟩, 
              ⟨(some 98), (.mv (.tmp 97)), none⟩, 
              ⟨(some 99), (.fieldAddr 4 (.tmp 1)), (some (98, true))⟩, 
              ⟨(some 100), (.load1 (.tmp 99)), (some (98, true))⟩, 
              ⟨(some 101), (.lenSl (.tmp 100)), (some (98, true))⟩, 
              ⟨(some 102), (.bin .eql (.tmp 101) (.const (.int .i64 0))), (some (98, true))⟩, 
              ⟨(some 103), (.pick (.tmp 98) (.tmp 102) (.const (.bool false))), none⟩, 
              ⟨(some 2), (.mv (.tmp 103)), none⟩])
             .ret)
            (.seq (.ops [
              ⟨(some 105), (.bin .eql (.tmp 4) (.const (.int .i64 5))), none⟩, 
              ⟨(some 104), (.mv (.tmp 105)), none⟩])
             (.cond (.tmp 104)
              (.seq (.ops [
                ⟨(some 106), (.fieldAddr 1 (.tmp 1)), none⟩, 
                ⟨(some 107), (.load1 (.tmp 106)), none⟩, 
                ⟨(some 108), (.bin .eql (.tmp 107) (.const (.int .i64 0))), none⟩, 
                ⟨(some 109), (.mv (.tmp 108)), none⟩, 
                ⟨(some 110), (.fieldAddr 2 (.tmp 1)), (some (109, true))⟩, 
                ⟨(some 111), (.load1 (.tmp 110)), (some (109, true))⟩, 
                ⟨(some 112), (.bin .eql (.tmp 111) (.const (.string ⟨#[]⟩))), (some (109, true))⟩, 
                ⟨(some 113), (.pick (.tmp 109) (.tmp 112) (.const (.bool false))), none⟩, 
                ⟨(some 114), (.mv (.tmp 113)), none⟩, 
                ⟨(some 115), (.fieldAddr 3 (.tmp 1)), (some (114, true))⟩, 
                ⟨(some 116), (.load1 (.tmp 115)), (some (114, true))⟩, 
                ⟨(some 117), (.lenSl (.tmp 116)), (some (114, true))⟩, 
                ⟨(some 118), (.bin .eql (.tmp 117) (.const (.int .i64 0))), (some (114, true))⟩, 
                ⟨(some 119), (.pick (.tmp 114) (.tmp 118) (.const (.bool false))), none⟩, 
                ⟨(some 2), (.mv (.tmp 119)), none⟩])
               .ret)
              (.seq (.ops [
                ⟨(some 121), (.bin .eql (.tmp 4) (.const (.int .i64 6))), none⟩, 
                ⟨(some 120), (.mv (.tmp 121)), none⟩])
               (.cond (.tmp 120)
                (.seq (.ops [
                  ⟨(some 122), (.fieldAddr 1 (.tmp 1)), none⟩, 
                  ⟨(some 123), (.load1 (.tmp 122)), none⟩, 
                  ⟨(some 124), (.bin .eql (.tmp 123) (.const (.int .i64 0))), none⟩, 
                  ⟨(some 125), (.mv (.tmp 124)), none⟩, 
                  ⟨(some 126), (.fieldAddr 2 (.tmp 1)), (some (125, true))⟩, 
                  ⟨(some 127), (.load1 (.tmp 126)), (some (125, true))⟩, 
                  ⟨(some 128), (.bin .eql (.tmp 127) (.const (.string ⟨#[]⟩))), (some (125, true))⟩, 
                  ⟨(some 129), (.pick (.tmp 125) (.tmp 128) (.const (.bool false))), none⟩, 
                  ⟨(some 130), (.mv (.tmp 129)), none⟩, 
                  ⟨(some 131), (.loadN 5 (.tmp 1)), (some (130, true))⟩, 
                  ⟨(some 132), (.callF 46 [(.tmp 131)]), (some (130, true))⟩, 
                  ⟨(some 133), (.pick (.tmp 130) (.tmp 132) (.const (.bool false))), none⟩, 
                  ⟨(some 2), (.mv (.tmp 133)), none⟩])
                 .ret)
                .skip))))))))))))))
  (.seq (.ops [
    ⟨(some 2), (.mv (.const (.bool false))), none⟩])
   .ret)))
theorem c38 {args : Array Value} {h : Heap} {R : Ending → Heap → Prop} (ha : args.size ≤ 134) (hh : aexec Tryd.prog ac38 (abody [(.slot 2)] R) ⟨initFr args.toList, []⟩ h) : HCalls Tryd.prog 38 args h R :=
  hcalls_of Tryd.func38 rfl rfl (by kernel_rfl) (by kernel_rfl) ha hh
/-- 39: (*credenza/data.writer).lay -/
def ac39 : ACode :=
 (.seq (.ops [
  ⟨(some 6), (.mv (.tmp 1)), none⟩, 
  ⟨(some 7), (.lenSl (.tmp 6)), none⟩, 
  ⟨(some 8), (.mv (.const (.int .i64 0))), none⟩])
 (.block 0
  (.loop
   (.seq (.ops [
     ⟨(some 9), (.bin .lss (.tmp 8) (.tmp 7)), none⟩])
    (.seq (.cond (.tmp 9)
      .skip
      (.exit 0))
     (.seq (.block 1
       (.seq (.ops [
         ⟨(some 10), (.idxSl 1 (.tmp 6) (.tmp 8)), none⟩, 
         ⟨(some 11), (.load1 (.tmp 10)), none⟩, 
         ⟨(some 5), (.mv (.tmp 11)), none⟩])
        (.ops [
         ⟨(some 12), (.mv (.tmp 0)), none⟩, 
         ⟨(some 13), (.nilCheck (.tmp 12)), none⟩, 
         ⟨(some 14), (.fieldAddr 0 (.tmp 13)), none⟩, 
         ⟨(some 15), (.mv (.tmp 5)), none⟩, 
         ⟨(some 16), (.callF 47 [(.tmp 14), (.tmp 15)]), none⟩])))
      (.ops [
       ⟨(some 17), (.bin .add (.tmp 8) (.const (.int .i64 1))), none⟩, 
       ⟨(some 8), (.mv (.tmp 17)), none⟩])))))))
theorem c39 {args : Array Value} {h : Heap} {R : Ending → Heap → Prop} (ha : args.size ≤ 18) (hh : aexec Tryd.prog ac39 (abody [] R) ⟨initFr args.toList, []⟩ h) : HCalls Tryd.prog 39 args h R :=
  hcalls_of Tryd.func39 rfl rfl (by kernel_rfl) (by kernel_rfl) ha hh
/-- 40: strconv.FormatBool -/
def ac40 : ACode :=
 (.seq (.ops [
  ⟨(some 2), (.mv (.const (.string ⟨#[]⟩))), none⟩])
 (.seq (.ops [
   ⟨(some 3), (.mv (.tmp 0)), none⟩, 
   ⟨(some 4), (.callF 48 [(.tmp 3)]), none⟩, 
   ⟨(some 2), (.mv (.tmp 4)), none⟩])
  .ret))
theorem c40 {args : Array Value} {h : Heap} {R : Ending → Heap → Prop} (ha : args.size ≤ 5) (hh : aexec Tryd.prog ac40 (abody [(.slot 2)] R) ⟨initFr args.toList, []⟩ h) : HCalls Tryd.prog 40 args h R :=
  hcalls_of Tryd.func40 rfl rfl (by kernel_rfl) (by kernel_rfl) ha hh
/-- 41: strconv.FormatInt -/
def ac41 : ACode :=
 (.seq (.ops [
  ⟨(some 4), (.mv (.const (.string ⟨#[]⟩))), none⟩])
 (.seq (.ops [
   ⟨(some 5), (.mv (.tmp 0)), none⟩, 
   ⟨(some 6), (.mv (.tmp 1)), none⟩, 
   ⟨(some 7), (.callF 49 [(.tmp 5), (.tmp 6)]), none⟩, 
   ⟨(some 4), (.mv (.tmp 7)), none⟩])
  .ret))
theorem c41 {args : Array Value} {h : Heap} {R : Ending → Heap → Prop} (ha : args.size ≤ 8) (hh : aexec Tryd.prog ac41 (abody [(.slot 4)] R) ⟨initFr args.toList, []⟩ h) : HCalls Tryd.prog 41 args h R :=
  hcalls_of Tryd.func41 rfl rfl (by kernel_rfl) (by kernel_rfl) ha hh
/-- 42: credenza/data.quoted -/
def ac42 : ACode :=
 (.seq (.ops [
  ⟨(some 2), (.mv (.const (.string ⟨#[]⟩))), none⟩])
 (.seq (.ops [
   ⟨(some 6), (.mv (.tmp 0)), none⟩, 
   ⟨(some 7), (.callF 50 [(.tmp 6)]), none⟩, 
   ⟨(some 5), (.mv (.tmp 7)), none⟩, 
   ⟨(some 8), (.extract (.tmp 5) 0), none⟩, 
   ⟨(some 9), (.extract (.tmp 5) 1), none⟩, 
   ⟨(some 3), (.mv (.tmp 8)), none⟩, 
   ⟨(some 4), (.mv (.tmp 9)), none⟩])
  (.seq (.ops [
    ⟨(some 10), (.mv (.tmp 3)), none⟩, 
    ⟨(some 2), (.mv (.tmp 10)), none⟩])
   .ret)))
theorem c42 {args : Array Value} {h : Heap} {R : Ending → Heap → Prop} (ha : args.size ≤ 11) (hh : aexec Tryd.prog ac42 (abody [(.slot 2)] R) ⟨initFr args.toList, []⟩ h) : HCalls Tryd.prog 42 args h R :=
  hcalls_of Tryd.func42 rfl rfl (by kernel_rfl) (by kernel_rfl) ha hh
/-- 43: credenza/credenzaref03.Digits -/
def ac43 : ACode :=
 (.seq (.ops [
  ⟨(some 2), (.mv (.const (.string ⟨#[]⟩))), none⟩])
 (.seq (.seq (.ops [
    ⟨(some 4), (.mv (.tmp 0)), none⟩, 
    ⟨(some 5), (.bin .lss (.tmp 4) (.const (.int .i64 0))), none⟩])
   (.cond (.tmp 5)
    (.seq (.ops [
      ⟨(some 6), (.mv (.tmp 0)), none⟩, 
      ⟨(some 7), (.un .neg (.tmp 6)), none⟩, 
      ⟨(some 8), (.callF 43 [(.tmp 7)]), none⟩, 
      ⟨(some 9), (.bin .add (.const (.string ⟨#[45]⟩)) (.tmp 8)), none⟩, 
      ⟨(some 2), (.mv (.tmp 9)), none⟩])
     .ret)
    .skip))
  (.seq (.ops [
    ⟨(some 10), (.mv (.tmp 0)), none⟩, 
    ⟨(some 11), (.bin .rem (.tmp 10) (.const (.int .i64 10))), none⟩, 
    ⟨(some 12), (.bin .add (.const (.int .i64 48)) (.tmp 11)), none⟩, 
    ⟨(some 13), (.convInt .u8 (.tmp 12)), none⟩, 
    ⟨(some 14), (.buildSlice 5 1 [(.int .u8 0)] [(0, 1, (.tmp 13))]), none⟩, 
    ⟨(some 15), (.strOfBytes (.tmp 14)), none⟩, 
    ⟨(some 3), (.mv (.tmp 15)), none⟩])
   (.seq (.seq (.ops [
      ⟨(some 16), (.mv (.tmp 0)), none⟩, 
      ⟨(some 17), (.bin .lss (.tmp 16) (.const (.int .i64 10))), none⟩])
     (.cond (.tmp 17)
      (.seq (.ops [
        ⟨(some 18), (.mv (.tmp 3)), none⟩, 
        ⟨(some 2), (.mv (.tmp 18)), none⟩])
       .ret)
      .skip))
    (.seq (.ops [
      ⟨(some 19), (.mv (.tmp 0)), none⟩, 
      ⟨(some 20), (.bin .quo (.tmp 19) (.const (.int .i64 10))), none⟩, 
      ⟨(some 21), (.callF 43 [(.tmp 20)]), none⟩, 
      ⟨(some 22), (.mv (.tmp 3)), none⟩, 
      ⟨(some 23), (.bin .add (.tmp 21) (.tmp 22)), none⟩, 
      ⟨(some 2), (.mv (.tmp 23)), none⟩])
     .ret)))))
theorem c43 {args : Array Value} {h : Heap} {R : Ending → Heap → Prop} (ha : args.size ≤ 24) (hh : aexec Tryd.prog ac43 (abody [(.slot 2)] R) ⟨initFr args.toList, []⟩ h) : HCalls Tryd.prog 43 args h R :=
  hcalls_of Tryd.func43 rfl rfl (by kernel_rfl) (by kernel_rfl) ha hh
/-- 44: credenza/credenzaref01.Quote -/
def ac44 : ACode :=
 (.seq (.ops [
  ⟨(some 2), (.mv (.const (.string ⟨#[]⟩))), none⟩, 
  ⟨(some 3), (.mv (.const (.int .i64 0))), none⟩])
 (.seq (.seq (.ops [
    ⟨(some 7), (.mv (.tmp 0)), none⟩, 
    ⟨(some 8), (.callF 45 [(.tmp 7)]), none⟩, 
    ⟨(some 9), (.un .not (.tmp 8)), none⟩])
   (.cond (.tmp 9)
    (.seq (.ops [
      ⟨(some 2), (.mv (.const (.string ⟨#[]⟩))), none⟩, 
      ⟨(some 3), (.mv (.const (.int .i64 10))), none⟩])
     .ret)
    .skip))
  (.seq (.ops [
    ⟨(some 4), (.mv (.const (.string ⟨#[34]⟩))), none⟩])
   (.seq (.seq (.ops [
      ⟨(some 10), (.mv (.tmp 0)), none⟩, 
      ⟨(some 11), (.callF 51 [(.tmp 10)]), none⟩, 
      ⟨(some 12), (.lenSl (.tmp 11)), none⟩, 
      ⟨(some 13), (.mv (.const (.int .i64 0))), none⟩])
     (.block 0
      (.loop
       (.seq (.ops [
         ⟨(some 14), (.bin .lss (.tmp 13) (.tmp 12)), none⟩])
        (.seq (.cond (.tmp 14)
          .skip
          (.exit 0))
         (.seq (.block 1
           (.seq (.ops [
             ⟨(some 15), (.idxSl 1 (.tmp 11) (.tmp 13)), none⟩, 
             ⟨(some 16), (.load1 (.tmp 15)), none⟩, 
             ⟨(some 6), (.mv (.tmp 16)), none⟩])
            (.ops [
             ⟨(some 17), (.mv (.tmp 4)), none⟩, 
             ⟨(some 18), (.mv (.tmp 6)), none⟩, 
             ⟨(some 19), (.callF 52 [(.tmp 18)]), none⟩, 
             ⟨(some 20), (.bin .add (.tmp 17) (.tmp 19)), none⟩, 
             ⟨(some 4), (.mv (.tmp 20)), none⟩])))
          (.ops [
           ⟨(some 21), (.bin .add (.tmp 13) (.const (.int .i64 1))), none⟩, 
           ⟨(some 13), (.mv (.tmp 21)), none⟩])))))))
    (.seq (.ops [
      ⟨(some 22), (.mv (.tmp 4)), none⟩, 
      ⟨(some 23), (.bin .add (.tmp 22) (.const (.string ⟨#[34]⟩))), none⟩, 
      ⟨(some 2), (.mv (.tmp 23)), none⟩, 
      ⟨(some 3), (.mv (.const (.int .i64 0))), none⟩])
     .ret)))))
theorem c44 {args : Array Value} {h : Heap} {R : Ending → Heap → Prop} (ha : args.size ≤ 24) (hh : aexec Tryd.prog ac44 (abody [(.slot 2), (.slot 3)] R) ⟨initFr args.toList, []⟩ h) : HCalls Tryd.prog 44 args h R :=
  hcalls_of Tryd.func44 rfl rfl (by kernel_rfl) (by kernel_rfl) ha hh
/-- 45: credenza/credenzaref01.Check -/
def ac45 : ACode :=
 (.seq (.ops [
  ⟨(some 2), (.mv (.const (.bool false))), none⟩])
 (.seq (.ops [
   ⟨(some 3), (.mv (.tmp 0)), none⟩, 
   ⟨(some 4), (.lenStr (.tmp 3)), none⟩, 
   ⟨(some 5), (.bin .rem (.tmp 4) (.const (.int .i64 2))), none⟩, 
   ⟨(some 6), (.bin .eql (.tmp 5) (.const (.int .i64 0))), none⟩, 
   ⟨(some 2), (.mv (.tmp 6)), none⟩])
  .ret))
theorem c45 {args : Array Value} {h : Heap} {R : Ending → Heap → Prop} (ha : args.size ≤ 7) (hh : aexec Tryd.prog ac45 (abody [(.slot 2)] R) ⟨initFr args.toList, []⟩ h) : HCalls Tryd.prog 45 args h R :=
  hcalls_of Tryd.func45 rfl rfl (by kernel_rfl) (by kernel_rfl) ha hh
/-- 46: credenza/credenzaref03.keys -/
def ac46 : ACode :=
 (.seq (.ops [
  ⟨(some 1), (.box 25 (.tmp 0)), none⟩, 
  ⟨(some 2), (.mv (.const (.bool false))), none⟩])
 (.seq (.seq (.ops [
    ⟨(some 7), (.fieldAddr 3 (.tmp 1)), none⟩, 
    ⟨(some 8), (.load1 (.tmp 7)), none⟩, 
    ⟨(some 9), (.lenSl (.tmp 8)), none⟩, 
    ⟨(some 10), (.fieldAddr 4 (.tmp 1)), none⟩, 
    ⟨(some 11), (.load1 (.tmp 10)), none⟩, 
    ⟨(some 12), (.lenSl (.tmp 11)), none⟩, 
    ⟨(some 13), (.bin .neq (.tmp 9) (.tmp 12)), none⟩])
   (.cond (.tmp 13)
    (.seq (.ops [
      ⟨(some 2), (.mv (.const (.bool false))), none⟩])
     .ret)
    .skip))
  (.seq (.seq (.ops [
     ⟨(some 14), (.fieldAddr 3 (.tmp 1)), none⟩, 
     ⟨(some 15), (.load1 (.tmp 14)), none⟩, 
     ⟨(some 16), (.lenSl (.tmp 15)), none⟩, 
     ⟨(some 17), (.mv (.const (.int .i64 0))), none⟩])
    (.block 0
     (.loop
      (.seq (.ops [
        ⟨(some 18), (.bin .lss (.tmp 17) (.tmp 16)), none⟩])
       (.seq (.cond (.tmp 18)
         .skip
         (.exit 0))
        (.seq (.block 1
          (.seq (.ops [
            ⟨(some 19), (.mv (.tmp 17)), none⟩, 
            ⟨(some 20), (.idxSl 1 (.tmp 15) (.tmp 17)), none⟩, 
            ⟨(some 21), (.load1 (.tmp 20)), none⟩, 
            ⟨(some 3), (.mv (.tmp 19)), none⟩, 
            ⟨(some 4), (.mv (.tmp 21)), none⟩])
           (.seq (.seq (.ops [
              ⟨(some 22), (.fieldAddr 3 (.tmp 1)), none⟩, 
              ⟨(some 23), (.load1 (.tmp 22)), none⟩, 
              ⟨(some 24), (.mv (.tmp 3)), none⟩, 
              ⟨(some 25), (.sliceSl 1 (.tmp 23) none (some (.tmp 24)) none), none⟩, 
              ⟨(some 26), (.lenSl (.tmp 25)), none⟩, 
              ⟨(some 27), (.mv (.const (.int .i64 0))), none⟩])
             (.block 2
              (.loop
               (.seq (.ops [
                 ⟨(some 28), (.bin .lss (.tmp 27) (.tmp 26)), none⟩])
                (.seq (.cond (.tmp 28)
                  .skip
                  (.exit 2))
                 (.seq (.block 3
                   (.seq (.ops [
                     ⟨(some 29), (.idxSl 1 (.tmp 25) (.tmp 27)), none⟩, 
                     ⟨(some 30), (.load1 (.tmp 29)), none⟩, 
                     ⟨(some 6), (.mv (.tmp 30)), none⟩])
                    (.seq (.ops [
                      ⟨(some 31), (.mv (.tmp 6)), none⟩, 
                      ⟨(some 32), (.mv (.tmp 4)), none⟩, 
                      ⟨(some 33), (.bin .eql (.tmp 31) (.tmp 32)), none⟩])
                     (.cond (.tmp 33)
                      (.seq (.ops [
                        ⟨(some 2), (.mv (.const (.bool false))), none⟩])
                       .ret)
                      .skip))))
                  (.ops [
                   ⟨(some 34), (.bin .add (.tmp 27) (.const (.int .i64 1))), none⟩, 
                   ⟨(some 27), (.mv (.tmp 34)), none⟩])))))))
            (.seq (.ops [
              ⟨(some 35), (.mv (.tmp 4)), none⟩, 
              ⟨(some 36), (.callF 45 [(.tmp 35)]), none⟩, 
              ⟨(some 37), (.un .not (.tmp 36)), none⟩])
             (.cond (.tmp 37)
              (.seq (.ops [
                ⟨(some 2), (.mv (.const (.bool false))), none⟩])
               .ret)
              .skip)))))
         (.ops [
          ⟨(some 38), (.bin .add (.tmp 17) (.const (.int .i64 1))), none⟩, 
          ⟨(some 17), (.mv (.tmp 38)), none⟩])))))))
   (.seq (.ops [
     ⟨(some 2), (.mv (.const (.bool true))), none⟩])
    .ret))))
theorem c46 {args : Array Value} {h : Heap} {R : Ending → Heap → Prop} (ha : args.size ≤ 39) (hh : aexec Tryd.prog ac46 (abody [(.slot 2)] R) ⟨initFr args.toList, []⟩ h) : HCalls Tryd.prog 46 args h R :=
  hcalls_of Tryd.func46 rfl rfl (by kernel_rfl) (by kernel_rfl) ha hh
/-- 47: (*strings.Builder).WriteString -/
def ac47 : ACode :=
 (.seq (.ops [
  ⟨(some 4), (.mv (.const (.int .i64 0))), none⟩, 
  ⟨(some 5), (.mv (.const .nilIface)), none⟩])
 (.seq (.ops [
   ⟨(some 6), (.mv (.tmp 0)), none⟩, 
   ⟨(some 7), (.callF 53 [(.tmp 6)]), none⟩])
  (.seq (.ops [
    ⟨(some 8), (.mv (.tmp 0)), none⟩, 
    ⟨(some 9), (.mv (.tmp 0)), none⟩, 
    ⟨(some 10), (.nilCheck (.tmp 9)), none⟩, 
    ⟨(some 11), (.fieldAddr 1 (.tmp 10)), none⟩, 
    ⟨(some 12), (.load1 (.tmp 11)), none⟩, 
    ⟨(some 13), (.mv (.tmp 1)), none⟩, 
    ⟨(some 14), (.append 5 1 1 [(.int .u8 0)] (.tmp 12) (.tmp 13)), none⟩, 
    ⟨(some 15), (.nilCheck (.tmp 8)), none⟩, 
    ⟨(some 16), (.fieldAddr 1 (.tmp 15)), none⟩, 
    ⟨none, (.store1 (.tmp 16) (.tmp 14)), none⟩])
   (.seq (.ops [
     ⟨(some 17), (.mv (.tmp 1)), none⟩, 
     ⟨(some 18), (.lenStr (.tmp 17)), none⟩, 
     ⟨(some 4), (.mv (.tmp 18)), none⟩, 
     ⟨(some 5), (.mv (.const .nilIface)), none⟩])
    .ret))))
theorem c47 {args : Array Value} {h : Heap} {R : Ending → Heap → Prop} (ha : args.size ≤ 19) (hh : aexec Tryd.prog ac47 (abody [(.slot 4), (.slot 5)] R) ⟨initFr args.toList, []⟩ h) : HCalls Tryd.prog 47 args h R :=
  hcalls_of Tryd.func47 rfl rfl (by kernel_rfl) (by kernel_rfl) ha hh
/-- 48: internal/strconv.FormatBool -/
def ac48 : ACode :=
 (.seq (.ops [
  ⟨(some 2), (.mv (.const (.string ⟨#[]⟩))), none⟩])
 (.seq (.seq (.ops [
    ⟨(some 3), (.mv (.tmp 0)), none⟩])
   (.cond (.tmp 3)
    (.seq (.ops [
      ⟨(some 2), (.mv (.const (.string ⟨#[116, 114, 117, 101]⟩))), none⟩])
     .ret)
    .skip))
  (.seq (.ops [
    ⟨(some 2), (.mv (.const (.string ⟨#[102, 97, 108, 115, 101]⟩))), none⟩])
   .ret)))
theorem c48 {args : Array Value} {h : Heap} {R : Ending → Heap → Prop} (ha : args.size ≤ 4) (hh : aexec Tryd.prog ac48 (abody [(.slot 2)] R) ⟨initFr args.toList, []⟩ h) : HCalls Tryd.prog 48 args h R :=
  hcalls_of Tryd.func48 rfl rfl (by kernel_rfl) (by kernel_rfl) ha hh
/-- 49: internal/strconv.FormatInt -/
def ac49 : ACode :=
 (.seq (.ops [
  ⟨(some 4), (.mv (.const (.string ⟨#[]⟩))), none⟩])
 (.seq (.seq (.ops [
    ⟨(some 10), (.mv (.tmp 1)), none⟩, 
    ⟨(some 11), (.bin .eql (.tmp 10) (.const (.int .i64 10))), none⟩])
   (.cond (.tmp 11)
    (.seq (.seq (.ops [
       ⟨(some 12), (.mv (.tmp 0)), none⟩, 
       ⟨(some 13), (.bin .leq (.const (.int .i64 0)) (.tmp 12)), none⟩, 
       ⟨(some 14), (.mv (.tmp 13)), none⟩, 
       ⟨(some 15), (.mv (.tmp 0)), (some (14, true))⟩, 
       ⟨(some 16), (.bin .lss (.tmp 15) (.const (.int .i64 100))), (some (14, true))⟩, 
       ⟨(some 17), (.pick (.tmp 14) (.tmp 16) (.const (.bool false))), none⟩])
      (.cond (.tmp 17)
       (.seq (.ops [
         ⟨(some 18), (.mv (.tmp 0)), none⟩, 
         ⟨(some 19), (.callF 54 [(.tmp 18)]), none⟩, 
         ⟨(some 4), (.mv (.tmp 19)), none⟩])
        .ret)
       .skip))
     (.seq (.ops [
       ⟨(some 5), (.new 70 [(.int .u8 0), (.int .u8 0), (.int .u8 0), (.int .u8 0), (.int .u8 0), (.int .u8 0), (.int .u8 0), (.int .u8 0), (.int .u8 0), (.int .u8 0), (.int .u8 0), (.int .u8 0), (.int .u8 0), (.int .u8 0), (.int .u8 0), (.int .u8 0), (.int .u8 0), (.int .u8 0), (.int .u8 0), (.int .u8 0), (.int .u8 0), (.int .u8 0), (.int .u8 0), (.int .u8 0)]), none⟩])
      (.seq (.ops [
        ⟨(some 20), (.mv (.tmp 0)), none⟩, 
        ⟨(some 21), (.convInt .u64 (.tmp 20)), none⟩, 
        ⟨(some 6), (.mv (.tmp 21)), none⟩])
       (.seq (.seq (.ops [
          ⟨(some 22), (.mv (.tmp 0)), none⟩, 
          ⟨(some 23), (.bin .lss (.tmp 22) (.const (.int .i64 0))), none⟩])
         (.cond (.tmp 23)
          (.ops [
           ⟨(some 24), (.mv (.tmp 6)), none⟩, 
           ⟨(some 25), (.un .neg (.tmp 24)), none⟩, 
           ⟨(some 6), (.mv (.tmp 25)), none⟩])
          .skip))
        (.seq (.ops [
          ⟨(some 26), (.mv (.tmp 6)), none⟩, 
          ⟨(some 27), (.callF 55 [(.tmp 26)]), none⟩, 
          ⟨(some 7), (.mv (.tmp 27)), none⟩])
         (.seq (.ops [
           ⟨(some 28), (.mv (.tmp 7)), none⟩, 
           ⟨(some 29), (.bin .add (.const (.int .i64 1)) (.tmp 28)), none⟩, 
           ⟨(some 30), (.sliceArr 24 1 (.tmp 5) (some (.const (.int .i64 1))) (some (.tmp 29)) none), none⟩, 
           ⟨(some 31), (.mv (.tmp 6)), none⟩, 
           ⟨(some 32), (.callF 56 [(.tmp 30), (.tmp 31)]), none⟩])
          (.seq (.seq (.ops [
             ⟨(some 33), (.mv (.tmp 0)), none⟩, 
             ⟨(some 34), (.bin .lss (.tmp 33) (.const (.int .i64 0))), none⟩])
            (.cond (.tmp 34)
             (.seq (.ops [
               ⟨(some 35), (.idxArrP 24 1 (.tmp 5) (.const (.int .i64 0))), none⟩, 
               ⟨none, (.store1 (.tmp 35) (.const (.int .u8 45))), none⟩])
              (.seq (.ops [
                ⟨(some 36), (.mv (.tmp 7)), none⟩, 
                ⟨(some 37), (.bin .add (.const (.int .i64 1)) (.tmp 36)), none⟩, 
                ⟨(some 38), (.sliceArr 24 1 (.tmp 5) none (some (.tmp 37)) none), none⟩, 
                ⟨(some 39), (.strOfBytes (.tmp 38)), none⟩, 
                ⟨(some 4), (.mv (.tmp 39)), none⟩])
               .ret))
             .skip))
           (.seq (.ops [
             ⟨(some 40), (.mv (.tmp 7)), none⟩, 
             ⟨(some 41), (.bin .add (.const (.int .i64 1)) (.tmp 40)), none⟩, 
             ⟨(some 42), (.sliceArr 24 1 (.tmp 5) (some (.const (.int .i64 1))) (some (.tmp 41)) none), none⟩, 
             ⟨(some 43), (.strOfBytes (.tmp 42)), none⟩, 
             ⟨(some 4), (.mv (.tmp 43)), none⟩])
            .ret))))))))
    .skip))
  (.seq (.ops [
    ⟨(some 45), (.mv (.tmp 0)), none⟩, 
    ⟨(some 46), (.convInt .u64 (.tmp 45)), none⟩, 
    ⟨(some 47), (.mv (.tmp 1)), none⟩, 
    ⟨(some 48), (.mv (.tmp 0)), none⟩, 
    ⟨(some 49), (.bin .lss (.tmp 48) (.const (.int .i64 0))), none⟩, 
    ⟨(some 50), (.callF 57 [(.const (.slice none 0 0)), (.tmp 46), (.tmp 47), (.tmp 49), (.const (.bool false))]), none⟩, 
    ⟨(some 44), (.mv (.tmp 50)), none⟩, 
    ⟨(some 51), (.extract (.tmp 44) 0), none⟩, 
    ⟨(some 52), (.extract (.tmp 44) 1), none⟩, 
    ⟨(some 8), (.mv (.tmp 51)), none⟩, 
    ⟨(some 9), (.mv (.tmp 52)), none⟩])
   (.seq (.ops [
     ⟨(some 53), (.mv (.tmp 9)), none⟩, 
     ⟨(some 4), (.mv (.tmp 53)), none⟩])
    .ret))))
theorem c49 {args : Array Value} {h : Heap} {R : Ending → Heap → Prop} (ha : args.size ≤ 54) (hh : aexec Tryd.prog ac49 (abody [(.slot 4)] R) ⟨initFr args.toList, []⟩ h) : HCalls Tryd.prog 49 args h R :=
  hcalls_of Tryd.func49 rfl rfl (by kernel_rfl) (by kernel_rfl) ha hh
/-- 50: credenza/units.Quote -/
def ac50 : ACode :=
 (.seq (.ops [
  ⟨(some 2), (.mv (.const (.string ⟨#[]⟩))), none⟩, 
  ⟨(some 3), (.mv (.const (.int .i64 0))), none⟩])
 (.seq (.seq (.ops [
    ⟨(some 9), (.mv (.tmp 0)), none⟩, 
    ⟨(some 10), (.callF 36 [(.tmp 9)]), none⟩, 
    ⟨(some 11), (.un .not (.tmp 10)), none⟩])
   (.cond (.tmp 11)
    (.seq (.ops [
      ⟨(some 2), (.mv (.const (.string ⟨#[]⟩))), none⟩, 
      ⟨(some 3), (.mv (.const (.int .i64 10))), none⟩])
     .ret)
    .skip))
  (.seq (.ops [
    ⟨(some 12), (.buildSlice 5 1 [(.int .u8 0)] [(0, 1, (.const (.int .u8 34)))]), none⟩, 
    ⟨(some 4), (.mv (.tmp 12)), none⟩])
   (.seq (.seq (.ops [
      ⟨(some 13), (.mv (.tmp 0)), none⟩, 
      ⟨(some 14), (.callF 58 [(.tmp 13)]), none⟩, 
      ⟨(some 15), (.mv (.const (.int .i64 0))), none⟩])
     (.block 0
      (.loop
       (.seq (.ops [
         ⟨(some 16), (.bin .lss (.tmp 15) (.tmp 14)), none⟩])
        (.seq (.cond (.tmp 16)
          .skip
          (.exit 0))
         (.seq (.block 1
           (.seq (.ops [
             ⟨(some 17), (.mv (.tmp 15)), none⟩, 
             ⟨(some 5), (.mv (.tmp 17)), none⟩])
            (.seq (.ops [
              ⟨(some 18), (.mv (.tmp 0)), none⟩, 
              ⟨(some 19), (.mv (.tmp 5)), none⟩, 
              ⟨(some 20), (.callF 59 [(.tmp 18), (.tmp 19)]), none⟩, 
              ⟨(some 6), (.mv (.tmp 20)), none⟩])
             (.seq (.ops [
               ⟨(some 7), (.mv (.const (.int .i64 (-1)))), none⟩])
              (.seq (.seq (.ops [
                 ⟨(some 21), (.mv (.tmp 6)), none⟩, 
                 ⟨(some 22), (.bin .lss (.tmp 21) (.const (.int .i64 128))), none⟩])
                (.cond (.tmp 22)
                 (.ops [
                  ⟨(some 23), (.mv (.tmp 6)), none⟩, 
                  ⟨(some 24), (.convInt .u8 (.tmp 23)), none⟩, 
                  ⟨(some 25), (.callF 60 [(.const (.string ⟨#[8, 9, 10, 12, 13]⟩)), (.tmp 24)]), none⟩, 
                  ⟨(some 7), (.mv (.tmp 25)), none⟩])
                 .skip))
               (.block 2
                (.seq (.ops [
                  ⟨(some 32), (.mv (.tmp 6)), none⟩, 
                  ⟨(some 33), (.bin .eql (.tmp 32) (.const (.int .i64 34))), none⟩, 
                  ⟨(some 34), (.mv (.tmp 33)), none⟩, 
                  ⟨(some 35), (.mv (.tmp 6)), (some (34, false))⟩, 
                  ⟨(some 36), (.bin .eql (.tmp 35) (.const (.int .i64 92))), (some (34, false))⟩, 
                  ⟨(some 37), (.pick (.tmp 34) (.const (.bool true)) (.tmp 36)), none⟩, 
                  ⟨(some 31), (.mv (.tmp 37)), none⟩])
                 (.cond (.tmp 31)
                  (.ops [
                   ⟨(some 38), (.mv (.tmp 4)), none⟩, 
                   ⟨(some 39), (.mv (.tmp 6)), none⟩, 
                   ⟨(some 40), (.convInt .u8 (.tmp 39)), none⟩, 
                   ⟨(some 41), (.buildSlice 5 2 [(.int .u8 0), (.int .u8 0)] [(0, 1, (.const (.int .u8 92))), (1, 1, (.tmp 40))]), none⟩, 
                   ⟨(some 42), (.append 5 1 1 [(.int .u8 0)] (.tmp 38) (.tmp 41)), none⟩, 
                   ⟨(some 4), (.mv (.tmp 42)), none⟩])
                  (.seq (.ops [
                    ⟨(some 44), (.mv (.tmp 7)), none⟩, 
                    ⟨(some 45), (.bin .geq (.tmp 44) (.const (.int .i64 0))), none⟩, 
                    ⟨(some 43), (.mv (.tmp 45)), none⟩])
                   (.cond (.tmp 43)
                    (.ops [
                     ⟨(some 46), (.mv (.tmp 4)), none⟩, 
                     ⟨(some 47), (.mv (.tmp 7)), none⟩, 
                     ⟨(some 48), (.idxStr (.const (.string ⟨#[98, 116, 110, 102, 114]⟩)) (.tmp 47)), none⟩, 
                     ⟨(some 49), (.buildSlice 5 2 [(.int .u8 0), (.int .u8 0)] [(0, 1, (.const (.int .u8 92))), (1, 1, (.tmp 48))]), none⟩, 
                     ⟨(some 50), (.append 5 1 1 [(.int .u8 0)] (.tmp 46) (.tmp 49)), none⟩, 
                     ⟨(some 4), (.mv (.tmp 50)), none⟩])
                    (.seq (.ops [
                      ⟨(some 52), (.mv (.tmp 6)), none⟩, 
                      ⟨(some 53), (.bin .lss (.tmp 52) (.const (.int .i64 32))), none⟩, 
                      ⟨(some 54), (.mv (.tmp 53)), none⟩, 
                      ⟨(some 55), (.mv (.tmp 6)), (some (54, false))⟩, 
                      ⟨(some 56), (.bin .gtr (.tmp 55) (.const (.int .i64 126))), (some (54, false))⟩, 
                      ⟨(some 57), (.pick (.tmp 54) (.const (.bool true)) (.tmp 56)), none⟩, 
                      ⟨(some 51), (.mv (.tmp 57)), none⟩])
                     (.cond (.tmp 51)
                      (.seq (.ops [
                        ⟨(some 58), (.mv (.tmp 6)), none⟩, 
                        ⟨(some 59), (.bin .or (.tmp 58) (.const (.int .i64 65536))), none⟩, 
                        ⟨(some 60), (.callF 41 [(.tmp 59), (.const (.int .i64 16))]), none⟩, 
                        ⟨(some 8), (.mv (.tmp 60)), none⟩])
                       (.ops [
                        ⟨(some 61), (.mv (.tmp 4)), none⟩, 
                        ⟨(some 62), (.mv (.tmp 8)), none⟩, 
                        ⟨(some 63), (.sliceStr (.tmp 62) (some (.const (.int .i64 1))) none), none⟩, 
                        ⟨(some 64), (.bin .add (.const (.string ⟨#[92, 117]⟩)) (.tmp 63)), none⟩, 
                        ⟨(some 65), (.append 5 1 1 [(.int .u8 0)] (.tmp 61) (.tmp 64)), none⟩, 
                        ⟨(some 4), (.mv (.tmp 65)), none⟩]))
                      (.ops [
                       ⟨(some 26), (.mv (.tmp 4)), none⟩, 
                       ⟨(some 27), (.mv (.tmp 6)), none⟩, 
                       ⟨(some 28), (.convInt .u8 (.tmp 27)), none⟩, 
                       ⟨(some 29), (.buildSlice 5 1 [(.int .u8 0)] [(0, 1, (.tmp 28))]), none⟩, 
                       ⟨(some 30), (.append 5 1 1 [(.int .u8 0)] (.tmp 26) (.tmp 29)), none⟩, 
                       ⟨(some 4), (.mv (.tmp 30)), none⟩])))))))))))))
          (.ops [
           ⟨(some 66), (.bin .add (.tmp 15) (.const (.int .i64 1))), none⟩, 
           ⟨(some 15), (.mv (.tmp 66)), none⟩])))))))
    (.seq (.ops [
      ⟨(some 67), (.mv (.tmp 4)), none⟩, 
      ⟨(some 68), (.buildSlice 5 1 [(.int .u8 0)] [(0, 1, (.const (.int .u8 34)))]), none⟩, 
      ⟨(some 69), (.append 5 1 1 [(.int .u8 0)] (.tmp 67) (.tmp 68)), none⟩, 
      ⟨(some 70), (.strOfBytes (.tmp 69)), none⟩, 
      ⟨(some 2), (.mv (.tmp 70)), none⟩, 
      ⟨(some 3), (.mv (.const (.int .i64 0))), none⟩])
     .ret)))))
theorem c50 {args : Array Value} {h : Heap} {R : Ending → Heap → Prop} (ha : args.size ≤ 71) (hh : aexec Tryd.prog ac50 (abody [(.slot 2), (.slot 3)] R) ⟨initFr args.toList, []⟩ h) : HCalls Tryd.prog 50 args h R :=
  hcalls_of Tryd.func50 rfl rfl (by kernel_rfl) (by kernel_rfl) ha hh
/-- 51: credenza/credenzaref01.List -/
def ac51 : ACode :=
 (.seq (.ops [
  ⟨(some 2), (.mv (.const (.slice none 0 0))), none⟩])
 (.seq (.ops [
   ⟨(some 3), (.mv (.const (.slice none 0 0))), none⟩])
  (.seq (.seq (.ops [
     ⟨(some 4), (.mv (.const (.int .i64 0))), none⟩])
    (.block 0
     (.loop
      (.seq (.seq (.ops [
         ⟨(some 5), (.mv (.tmp 4)), none⟩, 
         ⟨(some 6), (.bin .add (.tmp 5) (.const (.int .i64 1))), none⟩, 
         ⟨(some 7), (.mv (.tmp 0)), none⟩, 
         ⟨(some 8), (.lenStr (.tmp 7)), none⟩, 
         ⟨(some 9), (.bin .lss (.tmp 6) (.tmp 8)), none⟩])
        (.cond (.tmp 9)
         .skip
         (.exit 0)))
       (.seq (.block 1
         (.any [12, 13, 14, 15, 16, 17, 18, 19, 20, 21, 22, 23, 24, 25, 3] [
          ⟨(some 12), (.mv (.tmp 3)), none⟩, 
          ⟨(some 13), (.mv (.tmp 0)), none⟩, 
          ⟨(some 14), (.mv (.tmp 4)), none⟩, 
          ⟨(some 15), (.idxStr (.tmp 13) (.tmp 14)), none⟩, 
          ⟨(some 16), (.convInt .i64 (.tmp 15)), none⟩, 
          ⟨(some 17), (.bin .mul (.tmp 16) (.const (.int .i64 256))), none⟩, 
          ⟨(some 18), (.mv (.tmp 0)), none⟩, 
          ⟨(some 19), (.mv (.tmp 4)), none⟩, 
          ⟨(some 20), (.bin .add (.tmp 19) (.const (.int .i64 1))), none⟩, 
          ⟨(some 21), (.idxStr (.tmp 18) (.tmp 20)), none⟩, 
          ⟨(some 22), (.convInt .i64 (.tmp 21)), none⟩, 
          ⟨(some 23), (.bin .add (.tmp 17) (.tmp 22)), none⟩, 
          ⟨(some 24), (.buildSlice 3 1 [(.int .i64 0)] [(0, 1, (.tmp 23))]), none⟩, 
          ⟨(some 25), (.append 3 1 8 [(.int .i64 0)] (.tmp 12) (.tmp 24)), none⟩, 
          ⟨(some 3), (.mv (.tmp 25)), none⟩]))
        (.ops [
         ⟨(some 10), (.mv (.tmp 4)), none⟩, 
         ⟨(some 11), (.bin .add (.tmp 10) (.const (.int .i64 2))), none⟩, 
         ⟨(some 4), (.mv (.tmp 11)), none⟩]))))))
   (.seq (.ops [
     ⟨(some 26), (.mv (.tmp 3)), none⟩, 
     ⟨(some 2), (.mv (.tmp 26)), none⟩])
    .ret))))
theorem c51 {args : Array Value} {h : Heap} {R : Ending → Heap → Prop} (ha : args.size ≤ 27) (hh : aexec Tryd.prog ac51 (abody [(.slot 2)] R) ⟨initFr args.toList, []⟩ h) : HCalls Tryd.prog 51 args h R :=
  hcalls_of Tryd.func51 rfl rfl (by kernel_rfl) (by kernel_rfl) ha hh
/-- 52: credenza/credenzaref01.quoted -/
def ac52 : ACode :=
 (.seq (.ops [
  ⟨(some 2), (.mv (.const (.string ⟨#[]⟩))), none⟩])
 (.seq (.seq (.ops [
    ⟨(some 3), (.mv (.tmp 0)), none⟩])
   (.block 0
    (.seq (.ops [
      ⟨(some 5), (.bin .eql (.tmp 3) (.const (.int .i64 34))), none⟩, 
      ⟨(some 4), (.mv (.tmp 5)), none⟩])
     (.cond (.tmp 4)
      (.seq (.ops [
        ⟨(some 2), (.mv (.const (.string ⟨#[92, 34]⟩))), none⟩])
       .ret)
      (.seq (.ops [
        ⟨(some 7), (.bin .eql (.tmp 3) (.const (.int .i64 92))), none⟩, 
        ⟨(some 6), (.mv (.tmp 7)), none⟩])
       (.cond (.tmp 6)
        (.seq (.ops [
          ⟨(some 2), (.mv (.const (.string ⟨#[92, 92]⟩))), none⟩])
         .ret)
        (.seq (.ops [
          ⟨(some 9), (.bin .eql (.tmp 3) (.const (.int .i64 8))), none⟩, 
          ⟨(some 8), (.mv (.tmp 9)), none⟩])
         (.cond (.tmp 8)
          (.seq (.ops [
            ⟨(some 2), (.mv (.const (.string ⟨#[92, 98]⟩))), none⟩])
           .ret)
          (.seq (.ops [
            ⟨(some 11), (.bin .eql (.tmp 3) (.const (.int .i64 9))), none⟩, 
            ⟨(some 10), (.mv (.tmp 11)), none⟩])
           (.cond (.tmp 10)
            (.seq (.ops [
              ⟨(some 2), (.mv (.const (.string ⟨#[92, 116]⟩))), none⟩])
             .ret)
            (.seq (.ops [
              ⟨(some 13), (.bin .eql (.tmp 3) (.const (.int .i64 10))), none⟩, 
              ⟨(some 12), (.mv (.tmp 13)), none⟩])
             (.cond (.tmp 12)
              (.seq (.ops [
                ⟨(some 2), (.mv (.const (.string ⟨#[92, 110]⟩))), none⟩])
               .ret)
              (.seq (.ops [
                ⟨(some 15), (.bin .eql (.tmp 3) (.const (.int .i64 12))), none⟩, 
                ⟨(some 14), (.mv (.tmp 15)), none⟩])
               (.cond (.tmp 14)
                (.seq (.ops [
                  ⟨(some 2), (.mv (.const (.string ⟨#[92, 102]⟩))), none⟩])
                 .ret)
                (.seq (.ops [
                  ⟨(some 17), (.bin .eql (.tmp 3) (.const (.int .i64 13))), none⟩, 
                  ⟨(some 16), (.mv (.tmp 17)), none⟩])
                 (.cond (.tmp 16)
                  (.seq (.ops [
                    ⟨(some 2), (.mv (.const (.string ⟨#[92, 114]⟩))), none⟩])
                   .ret)
                  .skip))))))))))))))))
  (.seq (.seq (.ops [
     ⟨(some 18), (.mv (.tmp 0)), none⟩, 
     ⟨(some 19), (.bin .lss (.tmp 18) (.const (.int .i64 32))), none⟩, 
     ⟨(some 20), (.mv (.tmp 19)), none⟩, 
     ⟨(some 21), (.mv (.tmp 0)), (some (20, false))⟩, 
     ⟨(some 22), (.bin .gtr (.tmp 21) (.const (.int .i64 126))), (some (20, false))⟩, 
     ⟨(some 23), (.pick (.tmp 20) (.const (.bool true)) (.tmp 22)), none⟩])
    (.cond (.tmp 23)
     (.seq (.ops [
       ⟨(some 24), (.mv (.tmp 0)), none⟩, 
       ⟨(some 25), (.bin .quo (.tmp 24) (.const (.int .i64 4096))), none⟩, 
       ⟨(some 26), (.callF 61 [(.tmp 25)]), none⟩, 
       ⟨(some 27), (.mv (.tmp 0)), none⟩, 
       ⟨(some 28), (.bin .quo (.tmp 27) (.const (.int .i64 256))), none⟩, 
       ⟨(some 29), (.bin .rem (.tmp 28) (.const (.int .i64 16))), none⟩, 
       ⟨(some 30), (.callF 61 [(.tmp 29)]), none⟩, 
       ⟨(some 31), (.mv (.tmp 0)), none⟩, 
       ⟨(some 32), (.bin .quo (.tmp 31) (.const (.int .i64 16))), none⟩, 
       ⟨(some 33), (.bin .rem (.tmp 32) (.const (.int .i64 16))), none⟩, 
       ⟨(some 34), (.callF 61 [(.tmp 33)]), none⟩, 
       ⟨(some 35), (.mv (.tmp 0)), none⟩, 
       ⟨(some 36), (.bin .rem (.tmp 35) (.const (.int .i64 16))), none⟩, 
       ⟨(some 37), (.callF 61 [(.tmp 36)]), none⟩, 
       ⟨(some 38), (.buildSlice 5 6 [(.int .u8 0), (.int .u8 0), (.int .u8 0), (.int .u8 0), (.int .u8 0), (.int .u8 0)] [(0, 1, (.const (.int .u8 92))), (1, 1, (.const (.int .u8 117))), (2, 1, (.tmp 26)), (3, 1, (.tmp 30)), (4, 1, (.tmp 34)), (5, 1, (.tmp 37))]), none⟩, 
       ⟨(some 39), (.strOfBytes (.tmp 38)), none⟩, 
       ⟨(some 2), (.mv (.tmp 39)), none⟩])
      .ret)
     .skip))
   (.seq (.ops [
     ⟨(some 40), (.mv (.tmp 0)), none⟩, 
     ⟨(some 41), (.convInt .u8 (.tmp 40)), none⟩, 
     ⟨(some 42), (.buildSlice 5 1 [(.int .u8 0)] [(0, 1, (.tmp 41))]), none⟩, 
     ⟨(some 43), (.strOfBytes (.tmp 42)), none⟩, 
     ⟨(some 2), (.mv (.tmp 43)), none⟩])
    .ret))))
theorem c52 {args : Array Value} {h : Heap} {R : Ending → Heap → Prop} (ha : args.size ≤ 44) (hh : aexec Tryd.prog ac52 (abody [(.slot 2)] R) ⟨initFr args.toList, []⟩ h) : HCalls Tryd.prog 52 args h R :=
  hcalls_of Tryd.func52 rfl rfl (by kernel_rfl) (by kernel_rfl) ha hh
/-- 53: (*strings.Builder).copyCheck -/
def ac53 : ACode :=
 (.seq (.ops [
  ⟨(some 2), (.mv (.tmp 0)), none⟩, 
  ⟨(some 3), (.nilCheck (.tmp 2)), none⟩, 
  ⟨(some 4), (.fieldAddr 0 (.tmp 3)), none⟩, 
  ⟨(some 5), (.load1 (.tmp 4)), none⟩, 
  ⟨(some 6), (.isNil 1 false (.tmp 5)), none⟩])
 (.cond (.tmp 6)
  (.ops [
   ⟨(some 7), (.mv (.tmp 0)), none⟩, 
   ⟨(some 8), (.mv (.tmp 0)), none⟩, 
   ⟨(some 9), (.raw ⟨(some 9), (.convert 44 80 (.tmp 8)), 80, "builder.go:39", #[⟨1, .data⟩], none⟩), none⟩, 
   ⟨(some 10), (.raw ⟨(some 10), (.call ⟨(.value (.func 62)), #[(.tmp 9)], #[80]⟩), 80, "builder.go:39", #[⟨2, .data⟩], none⟩), none⟩, 
   ⟨(some 11), (.raw ⟨(some 11), (.convert 80 44 (.tmp 10)), 44, "builder.go:39", #[⟨3, .data⟩], none⟩), none⟩, 
   ⟨(some 12), (.nilCheck (.tmp 7)), none⟩, 
   ⟨(some 13), (.fieldAddr 0 (.tmp 12)), none⟩, 
   ⟨none, (.store1 (.tmp 13) (.tmp 11)), none⟩])
  (.seq (.ops [
    ⟨(some 14), (.mv (.tmp 0)), none⟩, 
    ⟨(some 15), (.nilCheck (.tmp 14)), none⟩, 
    ⟨(some 16), (.fieldAddr 0 (.tmp 15)), none⟩, 
    ⟨(some 17), (.load1 (.tmp 16)), none⟩, 
    ⟨(some 18), (.mv (.tmp 0)), none⟩, 
    ⟨(some 19), (.raw ⟨(some 19), (.binOp .neq 44 (.tmp 17) (.tmp 18) 44), 4, "builder.go:40", #[⟨3, .data⟩, ⟨4, .data⟩], none⟩), none⟩])
   (.cond (.tmp 19)
    (.raw (.refuse "(*strings.Builder).copyCheck builder.go:41: unsupported: a written strings.Builder's value in another place: whether the library's copy check passes hangs on where the compiler lays the two"))
    .skip))))
theorem c53 {args : Array Value} {h : Heap} {R : Ending → Heap → Prop} (ha : args.size ≤ 20) (hh : aexec Tryd.prog ac53 (abody [] R) ⟨initFr args.toList, []⟩ h) : HCalls Tryd.prog 53 args h R :=
  hcalls_of Tryd.func53 rfl rfl (by kernel_rfl) (by kernel_rfl) ha hh
/-- 54: internal/strconv.small -/
def ac54 : ACode :=
 (.seq (.ops [
  ⟨(some 2), (.mv (.const (.string ⟨#[]⟩))), none⟩])
 (.seq (.seq (.ops [
    ⟨(some 3), (.mv (.tmp 0)), none⟩, 
    ⟨(some 4), (.bin .lss (.tmp 3) (.const (.int .i64 10))), none⟩])
   (.cond (.tmp 4)
    (.seq (.ops [
      ⟨(some 5), (.mv (.tmp 0)), none⟩, 
      ⟨(some 6), (.mv (.tmp 0)), none⟩, 
      ⟨(some 7), (.bin .add (.tmp 6) (.const (.int .i64 1))), none⟩, 
      ⟨(some 8), (.sliceStr (.const (.string ⟨#[48, 49, 50, 51, 52, 53, 54, 55, 56, 57, 97, 98, 99, 100, 101, 102, 103, 104, 105, 106, 107, 108, 109, 110, 111, 112, 113, 114, 115, 116, 117, 118, 119, 120, 121, 122]⟩)) (some (.tmp 5)) (some (.tmp 7))), none⟩, 
      ⟨(some 2), (.mv (.tmp 8)), none⟩])
     .ret)
    .skip))
  (.seq (.ops [
    ⟨(some 9), (.mv (.tmp 0)), none⟩, 
    ⟨(some 10), (.bin .mul (.tmp 9) (.const (.int .i64 2))), none⟩, 
    ⟨(some 11), (.mv (.tmp 0)), none⟩, 
    ⟨(some 12), (.bin .mul (.tmp 11) (.const (.int .i64 2))), none⟩, 
    ⟨(some 13), (.bin .add (.tmp 12) (.const (.int .i64 2))), none⟩, 
    ⟨(some 14), (.sliceStr (.const (.string ⟨#[48, 48, 48, 49, 48, 50, 48, 51, 48, 52, 48, 53, 48, 54, 48, 55, 48, 56, 48, 57, 49, 48, 49, 49, 49, 50, 49, 51, 49, 52, 49, 53, 49, 54, 49, 55, 49, 56, 49, 57, 50, 48, 50, 49, 50, 50, 50, 51, 50, 52, 50, 53, 50, 54, 50, 55, 50, 56, 50, 57, 51, 48, 51, 49, 51, 50, 51, 51, 51, 52, 51, 53, 51, 54, 51, 55, 51, 56, 51, 57, 52, 48, 52, 49, 52, 50, 52, 51, 52, 52, 52, 53, 52, 54, 52, 55, 52, 56, 52, 57, 53, 48, 53, 49, 53, 50, 53, 51, 53, 52, 53, 53, 53, 54, 53, 55, 53, 56, 53, 57, 54, 48, 54, 49, 54, 50, 54, 51, 54, 52, 54, 53, 54, 54, 54, 55, 54, 56, 54, 57, 55, 48, 55, 49, 55, 50, 55, 51, 55, 52, 55, 53, 55, 54, 55, 55, 55, 56, 55, 57, 56, 48, 56, 49, 56, 50, 56, 51, 56, 52, 56, 53, 56, 54, 56, 55, 56, 56, 56, 57, 57, 48, 57, 49, 57, 50, 57, 51, 57, 52, 57, 53, 57, 54, 57, 55, 57, 56, 57, 57]⟩)) (some (.tmp 10)) (some (.tmp 13))), none⟩, 
    ⟨(some 2), (.mv (.tmp 14)), none⟩])
   .ret)))
theorem c54 {args : Array Value} {h : Heap} {R : Ending → Heap → Prop} (ha : args.size ≤ 15) (hh : aexec Tryd.prog ac54 (abody [(.slot 2)] R) ⟨initFr args.toList, []⟩ h) : HCalls Tryd.prog 54 args h R :=
  hcalls_of Tryd.func54 rfl rfl (by kernel_rfl) (by kernel_rfl) ha hh
/-- 55: internal/strconv.numDigits -/
def ac55 : ACode :=
 (.seq (.ops [
  ⟨(some 2), (.mv (.const (.int .i64 0))), none⟩])
 (.seq (.ops [
   ⟨(some 4), (.mv (.tmp 0)), none⟩, 
   ⟨(some 5), (.callF 64 [(.tmp 4)]), none⟩, 
   ⟨(some 6), (.callF 63 [(.tmp 5)]), none⟩, 
   ⟨(some 3), (.mv (.tmp 6)), none⟩])
  (.seq (.ops [
    ⟨(some 7), (.mv (.tmp 3)), none⟩, 
    ⟨(some 8), (.mv (.tmp 0)), none⟩, 
    ⟨(some 9), (.mv (.tmp 3)), none⟩, 
    ⟨(some 10), (.idxArrP 20 1 (.global 0) (.tmp 9)), none⟩, 
    ⟨(some 11), (.load1 (.tmp 10)), none⟩, 
    ⟨(some 12), (.bin .geq (.tmp 8) (.tmp 11)), none⟩, 
    ⟨(some 13), (.callF 65 [(.tmp 12)]), none⟩, 
    ⟨(some 14), (.bin .add (.tmp 7) (.tmp 13)), none⟩, 
    ⟨(some 2), (.mv (.tmp 14)), none⟩])
   .ret)))
theorem c55 {args : Array Value} {h : Heap} {R : Ending → Heap → Prop} (ha : args.size ≤ 15) (hh : aexec Tryd.prog ac55 (abody [(.slot 2)] R) ⟨initFr args.toList, []⟩ h) : HCalls Tryd.prog 55 args h R :=
  hcalls_of Tryd.func55 rfl rfl (by kernel_rfl) (by kernel_rfl) ha hh
/-- 56: internal/strconv.formatBase10 -/
def ac56 : ACode :=
 (.seq (.ops [
  ⟨(some 17), (.mv (.tmp 0)), none⟩, 
  ⟨(some 18), (.lenSl (.tmp 17)), none⟩, 
  ⟨(some 4), (.mv (.tmp 18)), none⟩])
 (.seq (.block 0
   (.loop
    (.seq (.seq (.ops [
       ⟨(some 19), (.mv (.tmp 4)), none⟩, 
       ⟨(some 20), (.bin .geq (.tmp 19) (.const (.int .i64 8))), none⟩])
      (.cond (.tmp 20)
       .skip
       (.exit 0)))
     (.block 1
      (.seq (.ops [
        ⟨(some 21), (.mv (.tmp 1)), none⟩, 
        ⟨(some 22), (.bin .rem (.tmp 21) (.const (.int .u64 100000000))), none⟩, 
        ⟨(some 23), (.convInt .u32 (.tmp 22)), none⟩, 
        ⟨(some 5), (.mv (.tmp 23)), none⟩])
       (.seq (.ops [
         ⟨(some 24), (.mv (.tmp 1)), none⟩, 
         ⟨(some 25), (.bin .quo (.tmp 24) (.const (.int .u64 100000000))), none⟩, 
         ⟨(some 1), (.mv (.tmp 25)), none⟩])
        (.seq (.ops [
          ⟨(some 26), (.mv (.tmp 5)), none⟩, 
          ⟨(some 27), (.bin .quo (.tmp 26) (.const (.int .u32 10000))), none⟩, 
          ⟨(some 28), (.mv (.tmp 5)), none⟩, 
          ⟨(some 29), (.bin .rem (.tmp 28) (.const (.int .u32 10000))), none⟩, 
          ⟨(some 6), (.mv (.tmp 27)), none⟩, 
          ⟨(some 7), (.mv (.tmp 29)), none⟩])
         (.seq (.ops [
           ⟨(some 30), (.mv (.tmp 7)), none⟩, 
           ⟨(some 31), (.bin .quo (.tmp 30) (.const (.int .u32 100))), none⟩, 
           ⟨(some 32), (.bin .mul (.tmp 31) (.const (.int .u32 2))), none⟩, 
           ⟨(some 33), (.mv (.tmp 7)), none⟩, 
           ⟨(some 34), (.bin .rem (.tmp 33) (.const (.int .u32 100))), none⟩, 
           ⟨(some 35), (.bin .mul (.tmp 34) (.const (.int .u32 2))), none⟩, 
           ⟨(some 8), (.mv (.tmp 32)), none⟩, 
           ⟨(some 9), (.mv (.tmp 35)), none⟩])
          (.seq (.ops [
            ⟨(some 36), (.mv (.tmp 6)), none⟩, 
            ⟨(some 37), (.bin .quo (.tmp 36) (.const (.int .u32 100))), none⟩, 
            ⟨(some 38), (.bin .mul (.tmp 37) (.const (.int .u32 2))), none⟩, 
            ⟨(some 39), (.mv (.tmp 6)), none⟩, 
            ⟨(some 40), (.bin .rem (.tmp 39) (.const (.int .u32 100))), none⟩, 
            ⟨(some 41), (.bin .mul (.tmp 40) (.const (.int .u32 2))), none⟩, 
            ⟨(some 10), (.mv (.tmp 38)), none⟩, 
            ⟨(some 11), (.mv (.tmp 41)), none⟩])
           (.seq (.any [42, 43, 44, 45, 46, 47, 48, 49, 50, 51, 52, 53, 54] [
             ⟨(some 42), (.mv (.tmp 0)), none⟩, 
             ⟨(some 43), (.mv (.tmp 4)), none⟩, 
             ⟨(some 44), (.bin .sub (.tmp 43) (.const (.int .i64 1))), none⟩, 
             ⟨(some 45), (.mv (.tmp 0)), none⟩, 
             ⟨(some 46), (.mv (.tmp 4)), none⟩, 
             ⟨(some 47), (.bin .sub (.tmp 46) (.const (.int .i64 2))), none⟩, 
             ⟨(some 48), (.mv (.tmp 9)), none⟩, 
             ⟨(some 49), (.bin .add (.tmp 48) (.const (.int .u32 1))), none⟩, 
             ⟨(some 50), (.idxStr (.const (.string ⟨#[48, 48, 48, 49, 48, 50, 48, 51, 48, 52, 48, 53, 48, 54, 48, 55, 48, 56, 48, 57, 49, 48, 49, 49, 49, 50, 49, 51, 49, 52, 49, 53, 49, 54, 49, 55, 49, 56, 49, 57, 50, 48, 50, 49, 50, 50, 50, 51, 50, 52, 50, 53, 50, 54, 50, 55, 50, 56, 50, 57, 51, 48, 51, 49, 51, 50, 51, 51, 51, 52, 51, 53, 51, 54, 51, 55, 51, 56, 51, 57, 52, 48, 52, 49, 52, 50, 52, 51, 52, 52, 52, 53, 52, 54, 52, 55, 52, 56, 52, 57, 53, 48, 53, 49, 53, 50, 53, 51, 53, 52, 53, 53, 53, 54, 53, 55, 53, 56, 53, 57, 54, 48, 54, 49, 54, 50, 54, 51, 54, 52, 54, 53, 54, 54, 54, 55, 54, 56, 54, 57, 55, 48, 55, 49, 55, 50, 55, 51, 55, 52, 55, 53, 55, 54, 55, 55, 55, 56, 55, 57, 56, 48, 56, 49, 56, 50, 56, 51, 56, 52, 56, 53, 56, 54, 56, 55, 56, 56, 56, 57, 57, 48, 57, 49, 57, 50, 57, 51, 57, 52, 57, 53, 57, 54, 57, 55, 57, 56, 57, 57]⟩)) (.tmp 49)), none⟩, 
             ⟨(some 51), (.mv (.tmp 9)), none⟩, 
             ⟨(some 52), (.idxStr (.const (.string ⟨#[48, 48, 48, 49, 48, 50, 48, 51, 48, 52, 48, 53, 48, 54, 48, 55, 48, 56, 48, 57, 49, 48, 49, 49, 49, 50, 49, 51, 49, 52, 49, 53, 49, 54, 49, 55, 49, 56, 49, 57, 50, 48, 50, 49, 50, 50, 50, 51, 50, 52, 50, 53, 50, 54, 50, 55, 50, 56, 50, 57, 51, 48, 51, 49, 51, 50, 51, 51, 51, 52, 51, 53, 51, 54, 51, 55, 51, 56, 51, 57, 52, 48, 52, 49, 52, 50, 52, 51, 52, 52, 52, 53, 52, 54, 52, 55, 52, 56, 52, 57, 53, 48, 53, 49, 53, 50, 53, 51, 53, 52, 53, 53, 53, 54, 53, 55, 53, 56, 53, 57, 54, 48, 54, 49, 54, 50, 54, 51, 54, 52, 54, 53, 54, 54, 54, 55, 54, 56, 54, 57, 55, 48, 55, 49, 55, 50, 55, 51, 55, 52, 55, 53, 55, 54, 55, 55, 55, 56, 55, 57, 56, 48, 56, 49, 56, 50, 56, 51, 56, 52, 56, 53, 56, 54, 56, 55, 56, 56, 56, 57, 57, 48, 57, 49, 57, 50, 57, 51, 57, 52, 57, 53, 57, 54, 57, 55, 57, 56, 57, 57]⟩)) (.tmp 51)), none⟩, 
             ⟨(some 53), (.idxSl 1 (.tmp 42) (.tmp 44)), none⟩, 
             ⟨none, (.store1 (.tmp 53) (.tmp 50)), none⟩, 
             ⟨(some 54), (.idxSl 1 (.tmp 45) (.tmp 47)), none⟩, 
             ⟨none, (.store1 (.tmp 54) (.tmp 52)), none⟩])
            (.seq (.any [55, 56, 57, 58, 59, 60, 61, 62, 63, 64, 65, 66, 67] [
              ⟨(some 55), (.mv (.tmp 0)), none⟩, 
              ⟨(some 56), (.mv (.tmp 4)), none⟩, 
              ⟨(some 57), (.bin .sub (.tmp 56) (.const (.int .i64 3))), none⟩, 
              ⟨(some 58), (.mv (.tmp 0)), none⟩, 
              ⟨(some 59), (.mv (.tmp 4)), none⟩, 
              ⟨(some 60), (.bin .sub (.tmp 59) (.const (.int .i64 4))), none⟩, 
              ⟨(some 61), (.mv (.tmp 8)), none⟩, 
              ⟨(some 62), (.bin .add (.tmp 61) (.const (.int .u32 1))), none⟩, 
              ⟨(some 63), (.idxStr (.const (.string ⟨#[48, 48, 48, 49, 48, 50, 48, 51, 48, 52, 48, 53, 48, 54, 48, 55, 48, 56, 48, 57, 49, 48, 49, 49, 49, 50, 49, 51, 49, 52, 49, 53, 49, 54, 49, 55, 49, 56, 49, 57, 50, 48, 50, 49, 50, 50, 50, 51, 50, 52, 50, 53, 50, 54, 50, 55, 50, 56, 50, 57, 51, 48, 51, 49, 51, 50, 51, 51, 51, 52, 51, 53, 51, 54, 51, 55, 51, 56, 51, 57, 52, 48, 52, 49, 52, 50, 52, 51, 52, 52, 52, 53, 52, 54, 52, 55, 52, 56, 52, 57, 53, 48, 53, 49, 53, 50, 53, 51, 53, 52, 53, 53, 53, 54, 53, 55, 53, 56, 53, 57, 54, 48, 54, 49, 54, 50, 54, 51, 54, 52, 54, 53, 54, 54, 54, 55, 54, 56, 54, 57, 55, 48, 55, 49, 55, 50, 55, 51, 55, 52, 55, 53, 55, 54, 55, 55, 55, 56, 55, 57, 56, 48, 56, 49, 56, 50, 56, 51, 56, 52, 56, 53, 56, 54, 56, 55, 56, 56, 56, 57, 57, 48, 57, 49, 57, 50, 57, 51, 57, 52, 57, 53, 57, 54, 57, 55, 57, 56, 57, 57]⟩)) (.tmp 62)), none⟩, 
              ⟨(some 64), (.mv (.tmp 8)), none⟩, 
              ⟨(some 65), (.idxStr (.const (.string ⟨#[48, 48, 48, 49, 48, 50, 48, 51, 48, 52, 48, 53, 48, 54, 48, 55, 48, 56, 48, 57, 49, 48, 49, 49, 49, 50, 49, 51, 49, 52, 49, 53, 49, 54, 49, 55, 49, 56, 49, 57, 50, 48, 50, 49, 50, 50, 50, 51, 50, 52, 50, 53, 50, 54, 50, 55, 50, 56, 50, 57, 51, 48, 51, 49, 51, 50, 51, 51, 51, 52, 51, 53, 51, 54, 51, 55, 51, 56, 51, 57, 52, 48, 52, 49, 52, 50, 52, 51, 52, 52, 52, 53, 52, 54, 52, 55, 52, 56, 52, 57, 53, 48, 53, 49, 53, 50, 53, 51, 53, 52, 53, 53, 53, 54, 53, 55, 53, 56, 53, 57, 54, 48, 54, 49, 54, 50, 54, 51, 54, 52, 54, 53, 54, 54, 54, 55, 54, 56, 54, 57, 55, 48, 55, 49, 55, 50, 55, 51, 55, 52, 55, 53, 55, 54, 55, 55, 55, 56, 55, 57, 56, 48, 56, 49, 56, 50, 56, 51, 56, 52, 56, 53, 56, 54, 56, 55, 56, 56, 56, 57, 57, 48, 57, 49, 57, 50, 57, 51, 57, 52, 57, 53, 57, 54, 57, 55, 57, 56, 57, 57]⟩)) (.tmp 64)), none⟩, 
              ⟨(some 66), (.idxSl 1 (.tmp 55) (.tmp 57)), none⟩, 
              ⟨none, (.store1 (.tmp 66) (.tmp 63)), none⟩, 
              ⟨(some 67), (.idxSl 1 (.tmp 58) (.tmp 60)), none⟩, 
              ⟨none, (.store1 (.tmp 67) (.tmp 65)), none⟩])
             (.seq (.any [68, 69, 70, 71, 72, 73, 74, 75, 76, 77, 78, 79, 80] [
               ⟨(some 68), (.mv (.tmp 0)), none⟩, 
               ⟨(some 69), (.mv (.tmp 4)), none⟩, 
               ⟨(some 70), (.bin .sub (.tmp 69) (.const (.int .i64 5))), none⟩, 
               ⟨(some 71), (.mv (.tmp 0)), none⟩, 
               ⟨(some 72), (.mv (.tmp 4)), none⟩, 
               ⟨(some 73), (.bin .sub (.tmp 72) (.const (.int .i64 6))), none⟩, 
               ⟨(some 74), (.mv (.tmp 11)), none⟩, 
               ⟨(some 75), (.bin .add (.tmp 74) (.const (.int .u32 1))), none⟩, 
               ⟨(some 76), (.idxStr (.const (.string ⟨#[48, 48, 48, 49, 48, 50, 48, 51, 48, 52, 48, 53, 48, 54, 48, 55, 48, 56, 48, 57, 49, 48, 49, 49, 49, 50, 49, 51, 49, 52, 49, 53, 49, 54, 49, 55, 49, 56, 49, 57, 50, 48, 50, 49, 50, 50, 50, 51, 50, 52, 50, 53, 50, 54, 50, 55, 50, 56, 50, 57, 51, 48, 51, 49, 51, 50, 51, 51, 51, 52, 51, 53, 51, 54, 51, 55, 51, 56, 51, 57, 52, 48, 52, 49, 52, 50, 52, 51, 52, 52, 52, 53, 52, 54, 52, 55, 52, 56, 52, 57, 53, 48, 53, 49, 53, 50, 53, 51, 53, 52, 53, 53, 53, 54, 53, 55, 53, 56, 53, 57, 54, 48, 54, 49, 54, 50, 54, 51, 54, 52, 54, 53, 54, 54, 54, 55, 54, 56, 54, 57, 55, 48, 55, 49, 55, 50, 55, 51, 55, 52, 55, 53, 55, 54, 55, 55, 55, 56, 55, 57, 56, 48, 56, 49, 56, 50, 56, 51, 56, 52, 56, 53, 56, 54, 56, 55, 56, 56, 56, 57, 57, 48, 57, 49, 57, 50, 57, 51, 57, 52, 57, 53, 57, 54, 57, 55, 57, 56, 57, 57]⟩)) (.tmp 75)), none⟩, 
               ⟨(some 77), (.mv (.tmp 11)), none⟩, 
               ⟨(some 78), (.idxStr (.const (.string ⟨#[48, 48, 48, 49, 48, 50, 48, 51, 48, 52, 48, 53, 48, 54, 48, 55, 48, 56, 48, 57, 49, 48, 49, 49, 49, 50, 49, 51, 49, 52, 49, 53, 49, 54, 49, 55, 49, 56, 49, 57, 50, 48, 50, 49, 50, 50, 50, 51, 50, 52, 50, 53, 50, 54, 50, 55, 50, 56, 50, 57, 51, 48, 51, 49, 51, 50, 51, 51, 51, 52, 51, 53, 51, 54, 51, 55, 51, 56, 51, 57, 52, 48, 52, 49, 52, 50, 52, 51, 52, 52, 52, 53, 52, 54, 52, 55, 52, 56, 52, 57, 53, 48, 53, 49, 53, 50, 53, 51, 53, 52, 53, 53, 53, 54, 53, 55, 53, 56, 53, 57, 54, 48, 54, 49, 54, 50, 54, 51, 54, 52, 54, 53, 54, 54, 54, 55, 54, 56, 54, 57, 55, 48, 55, 49, 55, 50, 55, 51, 55, 52, 55, 53, 55, 54, 55, 55, 55, 56, 55, 57, 56, 48, 56, 49, 56, 50, 56, 51, 56, 52, 56, 53, 56, 54, 56, 55, 56, 56, 56, 57, 57, 48, 57, 49, 57, 50, 57, 51, 57, 52, 57, 53, 57, 54, 57, 55, 57, 56, 57, 57]⟩)) (.tmp 77)), none⟩, 
               ⟨(some 79), (.idxSl 1 (.tmp 68) (.tmp 70)), none⟩, 
               ⟨none, (.store1 (.tmp 79) (.tmp 76)), none⟩, 
               ⟨(some 80), (.idxSl 1 (.tmp 71) (.tmp 73)), none⟩, 
               ⟨none, (.store1 (.tmp 80) (.tmp 78)), none⟩])
              (.seq (.any [81, 82, 83, 84, 85, 86, 87, 88, 89, 90, 91, 92, 93] [
                ⟨(some 81), (.mv (.tmp 0)), none⟩, 
                ⟨(some 82), (.mv (.tmp 4)), none⟩, 
                ⟨(some 83), (.bin .sub (.tmp 82) (.const (.int .i64 7))), none⟩, 
                ⟨(some 84), (.mv (.tmp 0)), none⟩, 
                ⟨(some 85), (.mv (.tmp 4)), none⟩, 
                ⟨(some 86), (.bin .sub (.tmp 85) (.const (.int .i64 8))), none⟩, 
                ⟨(some 87), (.mv (.tmp 10)), none⟩, 
                ⟨(some 88), (.bin .add (.tmp 87) (.const (.int .u32 1))), none⟩, 
                ⟨(some 89), (.idxStr (.const (.string ⟨#[48, 48, 48, 49, 48, 50, 48, 51, 48, 52, 48, 53, 48, 54, 48, 55, 48, 56, 48, 57, 49, 48, 49, 49, 49, 50, 49, 51, 49, 52, 49, 53, 49, 54, 49, 55, 49, 56, 49, 57, 50, 48, 50, 49, 50, 50, 50, 51, 50, 52, 50, 53, 50, 54, 50, 55, 50, 56, 50, 57, 51, 48, 51, 49, 51, 50, 51, 51, 51, 52, 51, 53, 51, 54, 51, 55, 51, 56, 51, 57, 52, 48, 52, 49, 52, 50, 52, 51, 52, 52, 52, 53, 52, 54, 52, 55, 52, 56, 52, 57, 53, 48, 53, 49, 53, 50, 53, 51, 53, 52, 53, 53, 53, 54, 53, 55, 53, 56, 53, 57, 54, 48, 54, 49, 54, 50, 54, 51, 54, 52, 54, 53, 54, 54, 54, 55, 54, 56, 54, 57, 55, 48, 55, 49, 55, 50, 55, 51, 55, 52, 55, 53, 55, 54, 55, 55, 55, 56, 55, 57, 56, 48, 56, 49, 56, 50, 56, 51, 56, 52, 56, 53, 56, 54, 56, 55, 56, 56, 56, 57, 57, 48, 57, 49, 57, 50, 57, 51, 57, 52, 57, 53, 57, 54, 57, 55, 57, 56, 57, 57]⟩)) (.tmp 88)), none⟩, 
                ⟨(some 90), (.mv (.tmp 10)), none⟩, 
                ⟨(some 91), (.idxStr (.const (.string ⟨#[48, 48, 48, 49, 48, 50, 48, 51, 48, 52, 48, 53, 48, 54, 48, 55, 48, 56, 48, 57, 49, 48, 49, 49, 49, 50, 49, 51, 49, 52, 49, 53, 49, 54, 49, 55, 49, 56, 49, 57, 50, 48, 50, 49, 50, 50, 50, 51, 50, 52, 50, 53, 50, 54, 50, 55, 50, 56, 50, 57, 51, 48, 51, 49, 51, 50, 51, 51, 51, 52, 51, 53, 51, 54, 51, 55, 51, 56, 51, 57, 52, 48, 52, 49, 52, 50, 52, 51, 52, 52, 52, 53, 52, 54, 52, 55, 52, 56, 52, 57, 53, 48, 53, 49, 53, 50, 53, 51, 53, 52, 53, 53, 53, 54, 53, 55, 53, 56, 53, 57, 54, 48, 54, 49, 54, 50, 54, 51, 54, 52, 54, 53, 54, 54, 54, 55, 54, 56, 54, 57, 55, 48, 55, 49, 55, 50, 55, 51, 55, 52, 55, 53, 55, 54, 55, 55, 55, 56, 55, 57, 56, 48, 56, 49, 56, 50, 56, 51, 56, 52, 56, 53, 56, 54, 56, 55, 56, 56, 56, 57, 57, 48, 57, 49, 57, 50, 57, 51, 57, 52, 57, 53, 57, 54, 57, 55, 57, 56, 57, 57]⟩)) (.tmp 90)), none⟩, 
                ⟨(some 92), (.idxSl 1 (.tmp 81) (.tmp 83)), none⟩, 
                ⟨none, (.store1 (.tmp 92) (.tmp 89)), none⟩, 
                ⟨(some 93), (.idxSl 1 (.tmp 84) (.tmp 86)), none⟩, 
                ⟨none, (.store1 (.tmp 93) (.tmp 91)), none⟩])
               (.ops [
                ⟨(some 94), (.mv (.tmp 4)), none⟩, 
                ⟨(some 95), (.bin .sub (.tmp 94) (.const (.int .i64 8))), none⟩, 
                ⟨(some 4), (.mv (.tmp 95)), none⟩]))))))))))))))
  (.seq (.ops [
    ⟨(some 96), (.mv (.tmp 1)), none⟩, 
    ⟨(some 97), (.convInt .u32 (.tmp 96)), none⟩, 
    ⟨(some 12), (.mv (.tmp 97)), none⟩])
   (.seq (.seq (.ops [
      ⟨(some 98), (.mv (.tmp 4)), none⟩, 
      ⟨(some 99), (.bin .geq (.tmp 98) (.const (.int .i64 4))), none⟩])
     (.cond (.tmp 99)
      (.seq (.ops [
        ⟨(some 100), (.mv (.tmp 12)), none⟩, 
        ⟨(some 101), (.bin .rem (.tmp 100) (.const (.int .u32 10000))), none⟩, 
        ⟨(some 13), (.mv (.tmp 101)), none⟩])
       (.seq (.ops [
         ⟨(some 102), (.mv (.tmp 12)), none⟩, 
         ⟨(some 103), (.bin .quo (.tmp 102) (.const (.int .u32 10000))), none⟩, 
         ⟨(some 12), (.mv (.tmp 103)), none⟩])
        (.seq (.ops [
          ⟨(some 104), (.mv (.tmp 13)), none⟩, 
          ⟨(some 105), (.bin .quo (.tmp 104) (.const (.int .u32 100))), none⟩, 
          ⟨(some 106), (.bin .mul (.tmp 105) (.const (.int .u32 2))), none⟩, 
          ⟨(some 107), (.mv (.tmp 13)), none⟩, 
          ⟨(some 108), (.bin .rem (.tmp 107) (.const (.int .u32 100))), none⟩, 
          ⟨(some 109), (.bin .mul (.tmp 108) (.const (.int .u32 2))), none⟩, 
          ⟨(some 14), (.mv (.tmp 106)), none⟩, 
          ⟨(some 15), (.mv (.tmp 109)), none⟩])
         (.seq (.any [110, 111, 112, 113, 114, 115, 116, 117, 118, 119, 120, 121, 122] [
           ⟨(some 110), (.mv (.tmp 0)), none⟩, 
           ⟨(some 111), (.mv (.tmp 4)), none⟩, 
           ⟨(some 112), (.bin .sub (.tmp 111) (.const (.int .i64 1))), none⟩, 
           ⟨(some 113), (.mv (.tmp 0)), none⟩, 
           ⟨(some 114), (.mv (.tmp 4)), none⟩, 
           ⟨(some 115), (.bin .sub (.tmp 114) (.const (.int .i64 2))), none⟩, 
           ⟨(some 116), (.mv (.tmp 15)), none⟩, 
           ⟨(some 117), (.bin .add (.tmp 116) (.const (.int .u32 1))), none⟩, 
           ⟨(some 118), (.idxStr (.const (.string ⟨#[48, 48, 48, 49, 48, 50, 48, 51, 48, 52, 48, 53, 48, 54, 48, 55, 48, 56, 48, 57, 49, 48, 49, 49, 49, 50, 49, 51, 49, 52, 49, 53, 49, 54, 49, 55, 49, 56, 49, 57, 50, 48, 50, 49, 50, 50, 50, 51, 50, 52, 50, 53, 50, 54, 50, 55, 50, 56, 50, 57, 51, 48, 51, 49, 51, 50, 51, 51, 51, 52, 51, 53, 51, 54, 51, 55, 51, 56, 51, 57, 52, 48, 52, 49, 52, 50, 52, 51, 52, 52, 52, 53, 52, 54, 52, 55, 52, 56, 52, 57, 53, 48, 53, 49, 53, 50, 53, 51, 53, 52, 53, 53, 53, 54, 53, 55, 53, 56, 53, 57, 54, 48, 54, 49, 54, 50, 54, 51, 54, 52, 54, 53, 54, 54, 54, 55, 54, 56, 54, 57, 55, 48, 55, 49, 55, 50, 55, 51, 55, 52, 55, 53, 55, 54, 55, 55, 55, 56, 55, 57, 56, 48, 56, 49, 56, 50, 56, 51, 56, 52, 56, 53, 56, 54, 56, 55, 56, 56, 56, 57, 57, 48, 57, 49, 57, 50, 57, 51, 57, 52, 57, 53, 57, 54, 57, 55, 57, 56, 57, 57]⟩)) (.tmp 117)), none⟩, 
           ⟨(some 119), (.mv (.tmp 15)), none⟩, 
           ⟨(some 120), (.idxStr (.const (.string ⟨#[48, 48, 48, 49, 48, 50, 48, 51, 48, 52, 48, 53, 48, 54, 48, 55, 48, 56, 48, 57, 49, 48, 49, 49, 49, 50, 49, 51, 49, 52, 49, 53, 49, 54, 49, 55, 49, 56, 49, 57, 50, 48, 50, 49, 50, 50, 50, 51, 50, 52, 50, 53, 50, 54, 50, 55, 50, 56, 50, 57, 51, 48, 51, 49, 51, 50, 51, 51, 51, 52, 51, 53, 51, 54, 51, 55, 51, 56, 51, 57, 52, 48, 52, 49, 52, 50, 52, 51, 52, 52, 52, 53, 52, 54, 52, 55, 52, 56, 52, 57, 53, 48, 53, 49, 53, 50, 53, 51, 53, 52, 53, 53, 53, 54, 53, 55, 53, 56, 53, 57, 54, 48, 54, 49, 54, 50, 54, 51, 54, 52, 54, 53, 54, 54, 54, 55, 54, 56, 54, 57, 55, 48, 55, 49, 55, 50, 55, 51, 55, 52, 55, 53, 55, 54, 55, 55, 55, 56, 55, 57, 56, 48, 56, 49, 56, 50, 56, 51, 56, 52, 56, 53, 56, 54, 56, 55, 56, 56, 56, 57, 57, 48, 57, 49, 57, 50, 57, 51, 57, 52, 57, 53, 57, 54, 57, 55, 57, 56, 57, 57]⟩)) (.tmp 119)), none⟩, 
           ⟨(some 121), (.idxSl 1 (.tmp 110) (.tmp 112)), none⟩, 
           ⟨none, (.store1 (.tmp 121) (.tmp 118)), none⟩, 
           ⟨(some 122), (.idxSl 1 (.tmp 113) (.tmp 115)), none⟩, 
           ⟨none, (.store1 (.tmp 122) (.tmp 120)), none⟩])
          (.seq (.any [123, 124, 125, 126, 127, 128, 129, 130, 131, 132, 133, 134, 135] [
            ⟨(some 123), (.mv (.tmp 0)), none⟩, 
            ⟨(some 124), (.mv (.tmp 4)), none⟩, 
            ⟨(some 125), (.bin .sub (.tmp 124) (.const (.int .i64 3))), none⟩, 
            ⟨(some 126), (.mv (.tmp 0)), none⟩, 
            ⟨(some 127), (.mv (.tmp 4)), none⟩, 
            ⟨(some 128), (.bin .sub (.tmp 127) (.const (.int .i64 4))), none⟩, 
            ⟨(some 129), (.mv (.tmp 14)), none⟩, 
            ⟨(some 130), (.bin .add (.tmp 129) (.const (.int .u32 1))), none⟩, 
            ⟨(some 131), (.idxStr (.const (.string ⟨#[48, 48, 48, 49, 48, 50, 48, 51, 48, 52, 48, 53, 48, 54, 48, 55, 48, 56, 48, 57, 49, 48, 49, 49, 49, 50, 49, 51, 49, 52, 49, 53, 49, 54, 49, 55, 49, 56, 49, 57, 50, 48, 50, 49, 50, 50, 50, 51, 50, 52, 50, 53, 50, 54, 50, 55, 50, 56, 50, 57, 51, 48, 51, 49, 51, 50, 51, 51, 51, 52, 51, 53, 51, 54, 51, 55, 51, 56, 51, 57, 52, 48, 52, 49, 52, 50, 52, 51, 52, 52, 52, 53, 52, 54, 52, 55, 52, 56, 52, 57, 53, 48, 53, 49, 53, 50, 53, 51, 53, 52, 53, 53, 53, 54, 53, 55, 53, 56, 53, 57, 54, 48, 54, 49, 54, 50, 54, 51, 54, 52, 54, 53, 54, 54, 54, 55, 54, 56, 54, 57, 55, 48, 55, 49, 55, 50, 55, 51, 55, 52, 55, 53, 55, 54, 55, 55, 55, 56, 55, 57, 56, 48, 56, 49, 56, 50, 56, 51, 56, 52, 56, 53, 56, 54, 56, 55, 56, 56, 56, 57, 57, 48, 57, 49, 57, 50, 57, 51, 57, 52, 57, 53, 57, 54, 57, 55, 57, 56, 57, 57]⟩)) (.tmp 130)), none⟩, 
            ⟨(some 132), (.mv (.tmp 14)), none⟩, 
            ⟨(some 133), (.idxStr (.const (.string ⟨#[48, 48, 48, 49, 48, 50, 48, 51, 48, 52, 48, 53, 48, 54, 48, 55, 48, 56, 48, 57, 49, 48, 49, 49, 49, 50, 49, 51, 49, 52, 49, 53, 49, 54, 49, 55, 49, 56, 49, 57, 50, 48, 50, 49, 50, 50, 50, 51, 50, 52, 50, 53, 50, 54, 50, 55, 50, 56, 50, 57, 51, 48, 51, 49, 51, 50, 51, 51, 51, 52, 51, 53, 51, 54, 51, 55, 51, 56, 51, 57, 52, 48, 52, 49, 52, 50, 52, 51, 52, 52, 52, 53, 52, 54, 52, 55, 52, 56, 52, 57, 53, 48, 53, 49, 53, 50, 53, 51, 53, 52, 53, 53, 53, 54, 53, 55, 53, 56, 53, 57, 54, 48, 54, 49, 54, 50, 54, 51, 54, 52, 54, 53, 54, 54, 54, 55, 54, 56, 54, 57, 55, 48, 55, 49, 55, 50, 55, 51, 55, 52, 55, 53, 55, 54, 55, 55, 55, 56, 55, 57, 56, 48, 56, 49, 56, 50, 56, 51, 56, 52, 56, 53, 56, 54, 56, 55, 56, 56, 56, 57, 57, 48, 57, 49, 57, 50, 57, 51, 57, 52, 57, 53, 57, 54, 57, 55, 57, 56, 57, 57]⟩)) (.tmp 132)), none⟩, 
            ⟨(some 134), (.idxSl 1 (.tmp 123) (.tmp 125)), none⟩, 
            ⟨none, (.store1 (.tmp 134) (.tmp 131)), none⟩, 
            ⟨(some 135), (.idxSl 1 (.tmp 126) (.tmp 128)), none⟩, 
            ⟨none, (.store1 (.tmp 135) (.tmp 133)), none⟩])
           (.ops [
            ⟨(some 136), (.mv (.tmp 4)), none⟩, 
            ⟨(some 137), (.bin .sub (.tmp 136) (.const (.int .i64 4))), none⟩, 
            ⟨(some 4), (.mv (.tmp 137)), none⟩]))))))
      .skip))
    (.seq (.seq (.ops [
       ⟨(some 138), (.mv (.tmp 4)), none⟩, 
       ⟨(some 139), (.bin .geq (.tmp 138) (.const (.int .i64 2))), none⟩])
      (.cond (.tmp 139)
       (.seq (.ops [
         ⟨(some 140), (.mv (.tmp 12)), none⟩, 
         ⟨(some 141), (.bin .rem (.tmp 140) (.const (.int .u32 100))), none⟩, 
         ⟨(some 142), (.bin .mul (.tmp 141) (.const (.int .u32 2))), none⟩, 
         ⟨(some 16), (.mv (.tmp 142)), none⟩])
        (.seq (.ops [
          ⟨(some 143), (.mv (.tmp 12)), none⟩, 
          ⟨(some 144), (.bin .quo (.tmp 143) (.const (.int .u32 100))), none⟩, 
          ⟨(some 12), (.mv (.tmp 144)), none⟩])
         (.seq (.any [145, 146, 147, 148, 149, 150, 151, 152, 153, 154, 155, 156, 157] [
           ⟨(some 145), (.mv (.tmp 0)), none⟩, 
           ⟨(some 146), (.mv (.tmp 4)), none⟩, 
           ⟨(some 147), (.bin .sub (.tmp 146) (.const (.int .i64 1))), none⟩, 
           ⟨(some 148), (.mv (.tmp 0)), none⟩, 
           ⟨(some 149), (.mv (.tmp 4)), none⟩, 
           ⟨(some 150), (.bin .sub (.tmp 149) (.const (.int .i64 2))), none⟩, 
           ⟨(some 151), (.mv (.tmp 16)), none⟩, 
           ⟨(some 152), (.bin .add (.tmp 151) (.const (.int .u32 1))), none⟩, 
           ⟨(some 153), (.idxStr (.const (.string ⟨#[48, 48, 48, 49, 48, 50, 48, 51, 48, 52, 48, 53, 48, 54, 48, 55, 48, 56, 48, 57, 49, 48, 49, 49, 49, 50, 49, 51, 49, 52, 49, 53, 49, 54, 49, 55, 49, 56, 49, 57, 50, 48, 50, 49, 50, 50, 50, 51, 50, 52, 50, 53, 50, 54, 50, 55, 50, 56, 50, 57, 51, 48, 51, 49, 51, 50, 51, 51, 51, 52, 51, 53, 51, 54, 51, 55, 51, 56, 51, 57, 52, 48, 52, 49, 52, 50, 52, 51, 52, 52, 52, 53, 52, 54, 52, 55, 52, 56, 52, 57, 53, 48, 53, 49, 53, 50, 53, 51, 53, 52, 53, 53, 53, 54, 53, 55, 53, 56, 53, 57, 54, 48, 54, 49, 54, 50, 54, 51, 54, 52, 54, 53, 54, 54, 54, 55, 54, 56, 54, 57, 55, 48, 55, 49, 55, 50, 55, 51, 55, 52, 55, 53, 55, 54, 55, 55, 55, 56, 55, 57, 56, 48, 56, 49, 56, 50, 56, 51, 56, 52, 56, 53, 56, 54, 56, 55, 56, 56, 56, 57, 57, 48, 57, 49, 57, 50, 57, 51, 57, 52, 57, 53, 57, 54, 57, 55, 57, 56, 57, 57]⟩)) (.tmp 152)), none⟩, 
           ⟨(some 154), (.mv (.tmp 16)), none⟩, 
           ⟨(some 155), (.idxStr (.const (.string ⟨#[48, 48, 48, 49, 48, 50, 48, 51, 48, 52, 48, 53, 48, 54, 48, 55, 48, 56, 48, 57, 49, 48, 49, 49, 49, 50, 49, 51, 49, 52, 49, 53, 49, 54, 49, 55, 49, 56, 49, 57, 50, 48, 50, 49, 50, 50, 50, 51, 50, 52, 50, 53, 50, 54, 50, 55, 50, 56, 50, 57, 51, 48, 51, 49, 51, 50, 51, 51, 51, 52, 51, 53, 51, 54, 51, 55, 51, 56, 51, 57, 52, 48, 52, 49, 52, 50, 52, 51, 52, 52, 52, 53, 52, 54, 52, 55, 52, 56, 52, 57, 53, 48, 53, 49, 53, 50, 53, 51, 53, 52, 53, 53, 53, 54, 53, 55, 53, 56, 53, 57, 54, 48, 54, 49, 54, 50, 54, 51, 54, 52, 54, 53, 54, 54, 54, 55, 54, 56, 54, 57, 55, 48, 55, 49, 55, 50, 55, 51, 55, 52, 55, 53, 55, 54, 55, 55, 55, 56, 55, 57, 56, 48, 56, 49, 56, 50, 56, 51, 56, 52, 56, 53, 56, 54, 56, 55, 56, 56, 56, 57, 57, 48, 57, 49, 57, 50, 57, 51, 57, 52, 57, 53, 57, 54, 57, 55, 57, 56, 57, 57]⟩)) (.tmp 154)), none⟩, 
           ⟨(some 156), (.idxSl 1 (.tmp 145) (.tmp 147)), none⟩, 
           ⟨none, (.store1 (.tmp 156) (.tmp 153)), none⟩, 
           ⟨(some 157), (.idxSl 1 (.tmp 148) (.tmp 150)), none⟩, 
           ⟨none, (.store1 (.tmp 157) (.tmp 155)), none⟩])
          (.ops [
           ⟨(some 158), (.mv (.tmp 4)), none⟩, 
           ⟨(some 159), (.bin .sub (.tmp 158) (.const (.int .i64 2))), none⟩, 
           ⟨(some 4), (.mv (.tmp 159)), none⟩]))))
       .skip))
     (.seq (.ops [
       ⟨(some 160), (.mv (.tmp 4)), none⟩, 
       ⟨(some 161), (.bin .gtr (.tmp 160) (.const (.int .i64 0))), none⟩])
      (.cond (.tmp 161)
       (.ops [
        ⟨(some 162), (.mv (.tmp 0)), none⟩, 
        ⟨(some 163), (.mv (.tmp 12)), none⟩, 
        ⟨(some 164), (.bin .add (.const (.int .u32 48)) (.tmp 163)), none⟩, 
        ⟨(some 165), (.convInt .u8 (.tmp 164)), none⟩, 
        ⟨(some 166), (.idxSl 1 (.tmp 162) (.const (.int .i64 0))), none⟩, 
        ⟨none, (.store1 (.tmp 166) (.tmp 165)), none⟩])
       .skip)))))))
theorem c56 {args : Array Value} {h : Heap} {R : Ending → Heap → Prop} (ha : args.size ≤ 167) (hh : aexec Tryd.prog ac56 (abody [] R) ⟨initFr args.toList, []⟩ h) : HCalls Tryd.prog 56 args h R :=
  hcalls_of Tryd.func56 rfl rfl (by kernel_rfl) (by kernel_rfl) ha hh
/-- 57: internal/strconv.formatBits -/
def ac57 : ACode :=
 (.seq (.ops [
  ⟨(some 10), (.mv (.const (.slice none 0 0))), none⟩, 
  ⟨(some 11), (.mv (.const (.string ⟨#[]⟩))), none⟩])
 (.seq (.seq (.ops [
    ⟨(some 19), (.mv (.tmp 2)), none⟩, 
    ⟨(some 20), (.bin .lss (.tmp 19) (.const (.int .i64 2))), none⟩, 
    ⟨(some 21), (.mv (.tmp 20)), none⟩, 
    ⟨(some 22), (.mv (.tmp 2)), (some (21, false))⟩, 
    ⟨(some 23), (.bin .eql (.tmp 22) (.const (.int .i64 10))), (some (21, false))⟩, 
    ⟨(some 24), (.pick (.tmp 21) (.const (.bool true)) (.tmp 23)), none⟩, 
    ⟨(some 25), (.mv (.tmp 24)), none⟩, 
    ⟨(some 26), (.mv (.tmp 2)), (some (25, false))⟩, 
    ⟨(some 27), (.bin .gtr (.tmp 26) (.const (.int .i64 36))), (some (25, false))⟩, 
    ⟨(some 28), (.pick (.tmp 25) (.const (.bool true)) (.tmp 27)), none⟩])
   (.cond (.tmp 28)
    (.ops [
     ⟨(some 29), (.mkIface 9 (.const (.string ⟨#[115, 116, 114, 99, 111, 110, 118, 58, 32, 105, 108, 108, 101, 103, 97, 108, 32, 65, 112, 112, 101, 110, 100, 73, 110, 116, 47, 70, 111, 114, 109, 97, 116, 73, 110, 116, 32, 98, 97, 115, 101]⟩))), none⟩, 
     ⟨none, (.panicI (.tmp 29)), none⟩])
    .skip))
  (.seq (.ops [
    ⟨(some 12), (.new 86 [(.int .u8 0), (.int .u8 0), (.int .u8 0), (.int .u8 0), (.int .u8 0), (.int .u8 0), (.int .u8 0), (.int .u8 0), (.int .u8 0), (.int .u8 0), (.int .u8 0), (.int .u8 0), (.int .u8 0), (.int .u8 0), (.int .u8 0), (.int .u8 0), (.int .u8 0), (.int .u8 0), (.int .u8 0), (.int .u8 0), (.int .u8 0), (.int .u8 0), (.int .u8 0), (.int .u8 0), (.int .u8 0), (.int .u8 0), (.int .u8 0), (.int .u8 0), (.int .u8 0), (.int .u8 0), (.int .u8 0), (.int .u8 0), (.int .u8 0), (.int .u8 0), (.int .u8 0), (.int .u8 0), (.int .u8 0), (.int .u8 0), (.int .u8 0), (.int .u8 0), (.int .u8 0), (.int .u8 0), (.int .u8 0), (.int .u8 0), (.int .u8 0), (.int .u8 0), (.int .u8 0), (.int .u8 0), (.int .u8 0), (.int .u8 0), (.int .u8 0), (.int .u8 0), (.int .u8 0), (.int .u8 0), (.int .u8 0), (.int .u8 0), (.int .u8 0), (.int .u8 0), (.int .u8 0), (.int .u8 0), (.int .u8 0), (.int .u8 0), (.int .u8 0), (.int .u8 0), (.int .u8 0)]), none⟩])
   (.seq (.ops [
     ⟨(some 13), (.mv (.const (.int .i64 65))), none⟩])
    (.seq (.seq (.ops [
       ⟨(some 30), (.mv (.tmp 3)), none⟩])
      (.cond (.tmp 30)
       (.ops [
        ⟨(some 31), (.mv (.tmp 1)), none⟩, 
        ⟨(some 32), (.un .neg (.tmp 31)), none⟩, 
        ⟨(some 1), (.mv (.tmp 32)), none⟩])
       .skip))
     (.seq (.seq (.ops [
        ⟨(some 33), (.mv (.tmp 2)), none⟩, 
        ⟨(some 34), (.callF 66 [(.tmp 33)]), none⟩])
       (.cond (.tmp 34)
        (.seq (.ops [
          ⟨(some 35), (.mv (.tmp 2)), none⟩, 
          ⟨(some 36), (.convInt .u64 (.tmp 35)), none⟩, 
          ⟨(some 37), (.callF 67 [(.tmp 36)]), none⟩, 
          ⟨(some 38), (.convInt .u64 (.tmp 37)), none⟩, 
          ⟨(some 14), (.mv (.tmp 38)), none⟩])
         (.seq (.ops [
           ⟨(some 39), (.mv (.tmp 2)), none⟩, 
           ⟨(some 40), (.convInt .u64 (.tmp 39)), none⟩, 
           ⟨(some 15), (.mv (.tmp 40)), none⟩])
          (.seq (.ops [
            ⟨(some 41), (.mv (.tmp 2)), none⟩, 
            ⟨(some 42), (.convInt .u64 (.tmp 41)), none⟩, 
            ⟨(some 43), (.bin .sub (.tmp 42) (.const (.int .u64 1))), none⟩, 
            ⟨(some 16), (.mv (.tmp 43)), none⟩])
           (.seq (.block 0
             (.loop
              (.seq (.seq (.ops [
                 ⟨(some 44), (.mv (.tmp 1)), none⟩, 
                 ⟨(some 45), (.mv (.tmp 15)), none⟩, 
                 ⟨(some 46), (.bin .geq (.tmp 44) (.tmp 45)), none⟩])
                (.cond (.tmp 46)
                 .skip
                 (.exit 0)))
               (.block 1
                (.seq (.ops [
                  ⟨(some 47), (.mv (.tmp 13)), none⟩, 
                  ⟨(some 48), (.bin .sub (.tmp 47) (.const (.int .i64 1))), none⟩, 
                  ⟨(some 13), (.mv (.tmp 48)), none⟩])
                 (.seq (.ops [
                   ⟨(some 49), (.mv (.tmp 13)), none⟩, 
                   ⟨(some 50), (.mv (.tmp 1)), none⟩, 
                   ⟨(some 51), (.mv (.tmp 16)), none⟩, 
                   ⟨(some 52), (.bin .and (.tmp 50) (.tmp 51)), none⟩, 
                   ⟨(some 53), (.idxStr (.const (.string ⟨#[48, 49, 50, 51, 52, 53, 54, 55, 56, 57, 97, 98, 99, 100, 101, 102, 103, 104, 105, 106, 107, 108, 109, 110, 111, 112, 113, 114, 115, 116, 117, 118, 119, 120, 121, 122]⟩)) (.tmp 52)), none⟩, 
                   ⟨(some 54), (.idxArrP 65 1 (.tmp 12) (.tmp 49)), none⟩, 
                   ⟨none, (.store1 (.tmp 54) (.tmp 53)), none⟩])
                  (.ops [
                   ⟨(some 55), (.mv (.tmp 1)), none⟩, 
                   ⟨(some 56), (.mv (.tmp 14)), none⟩, 
                   ⟨(some 57), (.bin .shr (.tmp 55) (.tmp 56)), none⟩, 
                   ⟨(some 1), (.mv (.tmp 57)), none⟩])))))))
            (.seq (.ops [
              ⟨(some 58), (.mv (.tmp 13)), none⟩, 
              ⟨(some 59), (.bin .sub (.tmp 58) (.const (.int .i64 1))), none⟩, 
              ⟨(some 13), (.mv (.tmp 59)), none⟩])
             (.ops [
              ⟨(some 60), (.mv (.tmp 13)), none⟩, 
              ⟨(some 61), (.mv (.tmp 1)), none⟩, 
              ⟨(some 62), (.idxStr (.const (.string ⟨#[48, 49, 50, 51, 52, 53, 54, 55, 56, 57, 97, 98, 99, 100, 101, 102, 103, 104, 105, 106, 107, 108, 109, 110, 111, 112, 113, 114, 115, 116, 117, 118, 119, 120, 121, 122]⟩)) (.tmp 61)), none⟩, 
              ⟨(some 63), (.idxArrP 65 1 (.tmp 12) (.tmp 60)), none⟩, 
              ⟨none, (.store1 (.tmp 63) (.tmp 62)), none⟩]))))))
        (.seq (.ops [
          ⟨(some 64), (.mv (.tmp 2)), none⟩, 
          ⟨(some 65), (.convInt .u64 (.tmp 64)), none⟩, 
          ⟨(some 17), (.mv (.tmp 65)), none⟩])
         (.seq (.block 2
           (.loop
            (.seq (.seq (.ops [
               ⟨(some 66), (.mv (.tmp 1)), none⟩, 
               ⟨(some 67), (.mv (.tmp 17)), none⟩, 
               ⟨(some 68), (.bin .geq (.tmp 66) (.tmp 67)), none⟩])
              (.cond (.tmp 68)
               .skip
               (.exit 2)))
             (.block 3
              (.seq (.ops [
                ⟨(some 69), (.mv (.tmp 13)), none⟩, 
                ⟨(some 70), (.bin .sub (.tmp 69) (.const (.int .i64 1))), none⟩, 
                ⟨(some 13), (.mv (.tmp 70)), none⟩])
               (.seq (.ops [
                 ⟨(some 71), (.mv (.tmp 1)), none⟩, 
                 ⟨(some 72), (.mv (.tmp 17)), none⟩, 
                 ⟨(some 73), (.bin .quo (.tmp 71) (.tmp 72)), none⟩, 
                 ⟨(some 18), (.mv (.tmp 73)), none⟩])
                (.seq (.ops [
                  ⟨(some 74), (.mv (.tmp 13)), none⟩, 
                  ⟨(some 75), (.mv (.tmp 1)), none⟩, 
                  ⟨(some 76), (.mv (.tmp 18)), none⟩, 
                  ⟨(some 77), (.mv (.tmp 17)), none⟩, 
                  ⟨(some 78), (.bin .mul (.tmp 76) (.tmp 77)), none⟩, 
                  ⟨(some 79), (.bin .sub (.tmp 75) (.tmp 78)), none⟩, 
                  ⟨(some 80), (.idxStr (.const (.string ⟨#[48, 49, 50, 51, 52, 53, 54, 55, 56, 57, 97, 98, 99, 100, 101, 102, 103, 104, 105, 106, 107, 108, 109, 110, 111, 112, 113, 114, 115, 116, 117, 118, 119, 120, 121, 122]⟩)) (.tmp 79)), none⟩, 
                  ⟨(some 81), (.idxArrP 65 1 (.tmp 12) (.tmp 74)), none⟩, 
                  ⟨none, (.store1 (.tmp 81) (.tmp 80)), none⟩])
                 (.ops [
                  ⟨(some 82), (.mv (.tmp 18)), none⟩, 
                  ⟨(some 1), (.mv (.tmp 82)), none⟩]))))))))
          (.seq (.ops [
            ⟨(some 83), (.mv (.tmp 13)), none⟩, 
            ⟨(some 84), (.bin .sub (.tmp 83) (.const (.int .i64 1))), none⟩, 
            ⟨(some 13), (.mv (.tmp 84)), none⟩])
           (.ops [
            ⟨(some 85), (.mv (.tmp 13)), none⟩, 
            ⟨(some 86), (.mv (.tmp 1)), none⟩, 
            ⟨(some 87), (.idxStr (.const (.string ⟨#[48, 49, 50, 51, 52, 53, 54, 55, 56, 57, 97, 98, 99, 100, 101, 102, 103, 104, 105, 106, 107, 108, 109, 110, 111, 112, 113, 114, 115, 116, 117, 118, 119, 120, 121, 122]⟩)) (.tmp 86)), none⟩, 
            ⟨(some 88), (.idxArrP 65 1 (.tmp 12) (.tmp 85)), none⟩, 
            ⟨none, (.store1 (.tmp 88) (.tmp 87)), none⟩]))))))
      (.seq (.seq (.ops [
         ⟨(some 89), (.mv (.tmp 3)), none⟩])
        (.cond (.tmp 89)
         (.seq (.ops [
           ⟨(some 90), (.mv (.tmp 13)), none⟩, 
           ⟨(some 91), (.bin .sub (.tmp 90) (.const (.int .i64 1))), none⟩, 
           ⟨(some 13), (.mv (.tmp 91)), none⟩])
          (.ops [
           ⟨(some 92), (.mv (.tmp 13)), none⟩, 
           ⟨(some 93), (.idxArrP 65 1 (.tmp 12) (.tmp 92)), none⟩, 
           ⟨none, (.store1 (.tmp 93) (.const (.int .u8 45))), none⟩]))
         .skip))
       (.seq (.seq (.ops [
          ⟨(some 94), (.mv (.tmp 4)), none⟩])
         (.cond (.tmp 94)
          (.seq (.ops [
            ⟨(some 95), (.mv (.tmp 0)), none⟩, 
            ⟨(some 96), (.mv (.tmp 13)), none⟩, 
            ⟨(some 97), (.sliceArr 65 1 (.tmp 12) (some (.tmp 96)) none none), none⟩, 
            ⟨(some 98), (.append 5 1 1 [(.int .u8 0)] (.tmp 95) (.tmp 97)), none⟩, 
            ⟨(some 10), (.mv (.tmp 98)), none⟩])
           .ret)
          .skip))
        (.seq (.ops [
          ⟨(some 99), (.mv (.tmp 13)), none⟩, 
          ⟨(some 100), (.sliceArr 65 1 (.tmp 12) (some (.tmp 99)) none none), none⟩, 
          ⟨(some 101), (.strOfBytes (.tmp 100)), none⟩, 
          ⟨(some 11), (.mv (.tmp 101)), none⟩])
         .ret)))))))))
theorem c57 {args : Array Value} {h : Heap} {R : Ending → Heap → Prop} (ha : args.size ≤ 102) (hh : aexec Tryd.prog ac57 (abody [(.slot 10), (.slot 11)] R) ⟨initFr args.toList, []⟩ h) : HCalls Tryd.prog 57 args h R :=
  hcalls_of Tryd.func57 rfl rfl (by kernel_rfl) (by kernel_rfl) ha hh
/-- 58: credenza/units.Len -/
def ac58 : ACode :=
 (.seq (.ops [
  ⟨(some 2), (.mv (.const (.int .i64 0))), none⟩])
 (.seq (.ops [
   ⟨(some 3), (.mv (.tmp 0)), none⟩, 
   ⟨(some 4), (.lenStr (.tmp 3)), none⟩, 
   ⟨(some 5), (.bin .quo (.tmp 4) (.const (.int .i64 2))), none⟩, 
   ⟨(some 2), (.mv (.tmp 5)), none⟩])
  .ret))
theorem c58 {args : Array Value} {h : Heap} {R : Ending → Heap → Prop} (ha : args.size ≤ 6) (hh : aexec Tryd.prog ac58 (abody [(.slot 2)] R) ⟨initFr args.toList, []⟩ h) : HCalls Tryd.prog 58 args h R :=
  hcalls_of Tryd.func58 rfl rfl (by kernel_rfl) (by kernel_rfl) ha hh
/-- 59: credenza/units.At -/
def ac59 : ACode :=
 (.seq (.ops [
  ⟨(some 4), (.mv (.const (.int .i64 0))), none⟩])
 (.seq (.seq (.ops [
    ⟨(some 5), (.mv (.tmp 1)), none⟩, 
    ⟨(some 6), (.bin .lss (.tmp 5) (.const (.int .i64 0))), none⟩, 
    ⟨(some 7), (.mv (.tmp 6)), none⟩, 
    ⟨(some 8), (.mv (.tmp 1)), (some (7, false))⟩, 
    ⟨(some 9), (.mv (.tmp 0)), (some (7, false))⟩, 
    ⟨(some 10), (.callF 58 [(.tmp 9)]), (some (7, false))⟩, 
    ⟨(some 11), (.bin .geq (.tmp 8) (.tmp 10)), (some (7, false))⟩, 
    ⟨(some 12), (.pick (.tmp 7) (.const (.bool true)) (.tmp 11)), none⟩])
   (.cond (.tmp 12)
    (.seq (.ops [
      ⟨(some 4), (.mv (.const (.int .i64 (-1)))), none⟩])
     .ret)
    .skip))
  (.seq (.any [13, 14, 15, 16, 17, 18, 19, 20, 21, 22, 23, 24, 25, 4] [
    ⟨(some 13), (.mv (.tmp 0)), none⟩, 
    ⟨(some 14), (.mv (.tmp 1)), none⟩, 
    ⟨(some 15), (.bin .mul (.const (.int .i64 2)) (.tmp 14)), none⟩, 
    ⟨(some 16), (.idxStr (.tmp 13) (.tmp 15)), none⟩, 
    ⟨(some 17), (.convInt .i64 (.tmp 16)), none⟩, 
    ⟨(some 18), (.bin .shl (.tmp 17) (.const (.int .u64 8))), none⟩, 
    ⟨(some 19), (.mv (.tmp 0)), none⟩, 
    ⟨(some 20), (.mv (.tmp 1)), none⟩, 
    ⟨(some 21), (.bin .mul (.const (.int .i64 2)) (.tmp 20)), none⟩, 
    ⟨(some 22), (.bin .add (.tmp 21) (.const (.int .i64 1))), none⟩, 
    ⟨(some 23), (.idxStr (.tmp 19) (.tmp 22)), none⟩, 
    ⟨(some 24), (.convInt .i64 (.tmp 23)), none⟩, 
    ⟨(some 25), (.bin .or (.tmp 18) (.tmp 24)), none⟩, 
    ⟨(some 4), (.mv (.tmp 25)), none⟩])
   .ret)))
theorem c59 {args : Array Value} {h : Heap} {R : Ending → Heap → Prop} (ha : args.size ≤ 26) (hh : aexec Tryd.prog ac59 (abody [(.slot 4)] R) ⟨initFr args.toList, []⟩ h) : HCalls Tryd.prog 59 args h R :=
  hcalls_of Tryd.func59 rfl rfl (by kernel_rfl) (by kernel_rfl) ha hh
/-- 60: strings.IndexByte -/
def ac60 : ACode :=
 (.seq (.ops [
  ⟨(some 4), (.mv (.const (.int .i64 0))), none⟩])
 (.seq (.ops [
   ⟨(some 5), (.mv (.tmp 0)), none⟩, 
   ⟨(some 6), (.mv (.tmp 1)), none⟩, 
   ⟨(some 7), (.callF 68 [(.tmp 5), (.tmp 6)]), none⟩, 
   ⟨(some 4), (.mv (.tmp 7)), none⟩])
  .ret))
theorem c60 {args : Array Value} {h : Heap} {R : Ending → Heap → Prop} (ha : args.size ≤ 8) (hh : aexec Tryd.prog ac60 (abody [(.slot 4)] R) ⟨initFr args.toList, []⟩ h) : HCalls Tryd.prog 60 args h R :=
  hcalls_of Tryd.func60 rfl rfl (by kernel_rfl) (by kernel_rfl) ha hh
/-- 61: credenza/credenzaref01.hex -/
def ac61 : ACode :=
 (.seq (.ops [
  ⟨(some 2), (.mv (.const (.int .u8 0))), none⟩])
 (.seq (.seq (.ops [
    ⟨(some 3), (.mv (.tmp 0)), none⟩, 
    ⟨(some 4), (.bin .lss (.tmp 3) (.const (.int .i64 10))), none⟩])
   (.cond (.tmp 4)
    (.seq (.ops [
      ⟨(some 5), (.mv (.tmp 0)), none⟩, 
      ⟨(some 6), (.bin .add (.const (.int .i64 48)) (.tmp 5)), none⟩, 
      ⟨(some 7), (.convInt .u8 (.tmp 6)), none⟩, 
      ⟨(some 2), (.mv (.tmp 7)), none⟩])
     .ret)
    .skip))
  (.seq (.ops [
    ⟨(some 8), (.mv (.tmp 0)), none⟩, 
    ⟨(some 9), (.bin .add (.const (.int .i64 97)) (.tmp 8)), none⟩, 
    ⟨(some 10), (.bin .sub (.tmp 9) (.const (.int .i64 10))), none⟩, 
    ⟨(some 11), (.convInt .u8 (.tmp 10)), none⟩, 
    ⟨(some 2), (.mv (.tmp 11)), none⟩])
   .ret)))
theorem c61 {args : Array Value} {h : Heap} {R : Ending → Heap → Prop} (ha : args.size ≤ 12) (hh : aexec Tryd.prog ac61 (abody [(.slot 2)] R) ⟨initFr args.toList, []⟩ h) : HCalls Tryd.prog 61 args h R :=
  hcalls_of Tryd.func61 rfl rfl (by kernel_rfl) (by kernel_rfl) ha hh
/-- 63: internal/strconv.log10Pow2 -/
def ac63 : ACode :=
 (.seq (.ops [
  ⟨(some 2), (.mv (.const (.int .i64 0))), none⟩])
 (.seq (.ops [
   ⟨(some 3), (.mv (.tmp 0)), none⟩, 
   ⟨(some 4), (.bin .mul (.tmp 3) (.const (.int .i64 78913))), none⟩, 
   ⟨(some 5), (.bin .shr (.tmp 4) (.const (.int .u64 18))), none⟩, 
   ⟨(some 2), (.mv (.tmp 5)), none⟩])
  .ret))
theorem c63 {args : Array Value} {h : Heap} {R : Ending → Heap → Prop} (ha : args.size ≤ 6) (hh : aexec Tryd.prog ac63 (abody [(.slot 2)] R) ⟨initFr args.toList, []⟩ h) : HCalls Tryd.prog 63 args h R :=
  hcalls_of Tryd.func63 rfl rfl (by kernel_rfl) (by kernel_rfl) ha hh
/-- 64: math/bits.Len64 -/
def ac64 : ACode :=
 (.seq (.ops [
  ⟨(some 2), (.mv (.const (.int .i64 0))), none⟩])
 (.seq (.seq (.ops [
    ⟨(some 3), (.mv (.tmp 0)), none⟩, 
    ⟨(some 4), (.bin .geq (.tmp 3) (.const (.int .u64 4294967296))), none⟩])
   (.cond (.tmp 4)
    (.seq (.ops [
      ⟨(some 5), (.mv (.tmp 0)), none⟩, 
      ⟨(some 6), (.bin .shr (.tmp 5) (.const (.int .u64 32))), none⟩, 
      ⟨(some 0), (.mv (.tmp 6)), none⟩])
     (.ops [
      ⟨(some 2), (.mv (.const (.int .i64 32))), none⟩]))
    .skip))
  (.seq (.seq (.ops [
     ⟨(some 7), (.mv (.tmp 0)), none⟩, 
     ⟨(some 8), (.bin .geq (.tmp 7) (.const (.int .u64 65536))), none⟩])
    (.cond (.tmp 8)
     (.seq (.ops [
       ⟨(some 9), (.mv (.tmp 0)), none⟩, 
       ⟨(some 10), (.bin .shr (.tmp 9) (.const (.int .u64 16))), none⟩, 
       ⟨(some 0), (.mv (.tmp 10)), none⟩])
      (.ops [
       ⟨(some 11), (.mv (.tmp 2)), none⟩, 
       ⟨(some 12), (.bin .add (.tmp 11) (.const (.int .i64 16))), none⟩, 
       ⟨(some 2), (.mv (.tmp 12)), none⟩]))
     .skip))
   (.seq (.seq (.ops [
      ⟨(some 13), (.mv (.tmp 0)), none⟩, 
      ⟨(some 14), (.bin .geq (.tmp 13) (.const (.int .u64 256))), none⟩])
     (.cond (.tmp 14)
      (.seq (.ops [
        ⟨(some 15), (.mv (.tmp 0)), none⟩, 
        ⟨(some 16), (.bin .shr (.tmp 15) (.const (.int .u64 8))), none⟩, 
        ⟨(some 0), (.mv (.tmp 16)), none⟩])
       (.ops [
        ⟨(some 17), (.mv (.tmp 2)), none⟩, 
        ⟨(some 18), (.bin .add (.tmp 17) (.const (.int .i64 8))), none⟩, 
        ⟨(some 2), (.mv (.tmp 18)), none⟩]))
      .skip))
    (.seq (.ops [
      ⟨(some 19), (.mv (.tmp 2)), none⟩, 
      ⟨(some 20), (.mv (.tmp 0)), none⟩, 
      ⟨(some 21), (.convInt .u8 (.tmp 20)), none⟩, 
      ⟨(some 22), (.idxStr (.const (.string ⟨#[0, 1, 2, 2, 3, 3, 3, 3, 4, 4, 4, 4, 4, 4, 4, 4, 5, 5, 5, 5, 5, 5, 5, 5, 5, 5, 5, 5, 5, 5, 5, 5, 6, 6, 6, 6, 6, 6, 6, 6, 6, 6, 6, 6, 6, 6, 6, 6, 6, 6, 6, 6, 6, 6, 6, 6, 6, 6, 6, 6, 6, 6, 6, 6, 7, 7, 7, 7, 7, 7, 7, 7, 7, 7, 7, 7, 7, 7, 7, 7, 7, 7, 7, 7, 7, 7, 7, 7, 7, 7, 7, 7, 7, 7, 7, 7, 7, 7, 7, 7, 7, 7, 7, 7, 7, 7, 7, 7, 7, 7, 7, 7, 7, 7, 7, 7, 7, 7, 7, 7, 7, 7, 7, 7, 7, 7, 7, 7, 8, 8, 8, 8, 8, 8, 8, 8, 8, 8, 8, 8, 8, 8, 8, 8, 8, 8, 8, 8, 8, 8, 8, 8, 8, 8, 8, 8, 8, 8, 8, 8, 8, 8, 8, 8, 8, 8, 8, 8, 8, 8, 8, 8, 8, 8, 8, 8, 8, 8, 8, 8, 8, 8, 8, 8, 8, 8, 8, 8, 8, 8, 8, 8, 8, 8, 8, 8, 8, 8, 8, 8, 8, 8, 8, 8, 8, 8, 8, 8, 8, 8, 8, 8, 8, 8, 8, 8, 8, 8, 8, 8, 8, 8, 8, 8, 8, 8, 8, 8, 8, 8, 8, 8, 8, 8, 8, 8, 8, 8, 8, 8, 8, 8, 8, 8, 8, 8, 8, 8, 8, 8, 8, 8, 8, 8, 8, 8]⟩)) (.tmp 21)), none⟩, 
      ⟨(some 23), (.convInt .i64 (.tmp 22)), none⟩, 
      ⟨(some 24), (.bin .add (.tmp 19) (.tmp 23)), none⟩, 
      ⟨(some 2), (.mv (.tmp 24)), none⟩])
     .ret)))))
theorem c64 {args : Array Value} {h : Heap} {R : Ending → Heap → Prop} (ha : args.size ≤ 25) (hh : aexec Tryd.prog ac64 (abody [(.slot 2)] R) ⟨initFr args.toList, []⟩ h) : HCalls Tryd.prog 64 args h R :=
  hcalls_of Tryd.func64 rfl rfl (by kernel_rfl) (by kernel_rfl) ha hh
/-- 65: internal/strconv.bool2[int] -/
def ac65 : ACode :=
 (.seq (.ops [
  ⟨(some 2), (.mv (.const (.int .i64 0))), none⟩])
 (.seq (.seq (.ops [
    ⟨(some 3), (.mv (.tmp 0)), none⟩])
   (.cond (.tmp 3)
    (.seq (.ops [
      ⟨(some 2), (.mv (.const (.int .i64 1))), none⟩])
     .ret)
    .skip))
  (.seq (.ops [
    ⟨(some 2), (.mv (.const (.int .i64 0))), none⟩])
   .ret)))
theorem c65 {args : Array Value} {h : Heap} {R : Ending → Heap → Prop} (ha : args.size ≤ 4) (hh : aexec Tryd.prog ac65 (abody [(.slot 2)] R) ⟨initFr args.toList, []⟩ h) : HCalls Tryd.prog 65 args h R :=
  hcalls_of Tryd.func65 rfl rfl (by kernel_rfl) (by kernel_rfl) ha hh
/-- 66: internal/strconv.isPowerOfTwo -/
def ac66 : ACode :=
 (.seq (.ops [
  ⟨(some 2), (.mv (.const (.bool false))), none⟩])
 (.seq (.ops [
   ⟨(some 3), (.mv (.tmp 0)), none⟩, 
   ⟨(some 4), (.mv (.tmp 0)), none⟩, 
   ⟨(some 5), (.bin .sub (.tmp 4) (.const (.int .i64 1))), none⟩, 
   ⟨(some 6), (.bin .and (.tmp 3) (.tmp 5)), none⟩, 
   ⟨(some 7), (.bin .eql (.tmp 6) (.const (.int .i64 0))), none⟩, 
   ⟨(some 2), (.mv (.tmp 7)), none⟩])
  .ret))
theorem c66 {args : Array Value} {h : Heap} {R : Ending → Heap → Prop} (ha : args.size ≤ 8) (hh : aexec Tryd.prog ac66 (abody [(.slot 2)] R) ⟨initFr args.toList, []⟩ h) : HCalls Tryd.prog 66 args h R :=
  hcalls_of Tryd.func66 rfl rfl (by kernel_rfl) (by kernel_rfl) ha hh
/-- 67: math/bits.TrailingZeros -/
def ac67 : ACode :=
 (.seq (.ops [
  ⟨(some 2), (.mv (.const (.int .i64 0))), none⟩])
 (.seq (.cond (.const (.bool false))
   (.seq (.ops [
     ⟨(some 3), (.mv (.tmp 0)), none⟩, 
     ⟨(some 4), (.convInt .u32 (.tmp 3)), none⟩, 
     ⟨(some 5), (.callF 69 [(.tmp 4)]), none⟩, 
     ⟨(some 2), (.mv (.tmp 5)), none⟩])
    .ret)
   .skip)
  (.seq (.ops [
    ⟨(some 6), (.mv (.tmp 0)), none⟩, 
    ⟨(some 7), (.callF 70 [(.tmp 6)]), none⟩, 
    ⟨(some 2), (.mv (.tmp 7)), none⟩])
   .ret)))
theorem c67 {args : Array Value} {h : Heap} {R : Ending → Heap → Prop} (ha : args.size ≤ 8) (hh : aexec Tryd.prog ac67 (abody [(.slot 2)] R) ⟨initFr args.toList, []⟩ h) : HCalls Tryd.prog 67 args h R :=
  hcalls_of Tryd.func67 rfl rfl (by kernel_rfl) (by kernel_rfl) ha hh
/-- 68: internal/stringslite.IndexByte -/
def ac68 : ACode :=
 (.seq (.ops [
  ⟨(some 4), (.mv (.const (.int .i64 0))), none⟩])
 (.seq (.ops [
   ⟨(some 5), (.mv (.tmp 0)), none⟩, 
   ⟨(some 6), (.mv (.tmp 1)), none⟩, 
   ⟨(some 7), (.raw ⟨(some 7), (.call ⟨(.value (.func 71)), #[(.tmp 5), (.tmp 6)], #[9, 5]⟩), 3, "strings.go:25", #[⟨0, .data⟩, ⟨1, .data⟩], none⟩), none⟩, 
   ⟨(some 4), (.mv (.tmp 7)), none⟩])
  .ret))
theorem c68 {args : Array Value} {h : Heap} {R : Ending → Heap → Prop} (ha : args.size ≤ 8) (hh : aexec Tryd.prog ac68 (abody [(.slot 4)] R) ⟨initFr args.toList, []⟩ h) : HCalls Tryd.prog 68 args h R :=
  hcalls_of Tryd.func68 rfl rfl (by kernel_rfl) (by kernel_rfl) ha hh
/-- 69: math/bits.TrailingZeros32 -/
def ac69 : ACode :=
 (.seq (.ops [
  ⟨(some 2), (.mv (.const (.int .i64 0))), none⟩])
 (.seq (.seq (.ops [
    ⟨(some 3), (.mv (.tmp 0)), none⟩, 
    ⟨(some 4), (.bin .eql (.tmp 3) (.const (.int .u32 0))), none⟩])
   (.cond (.tmp 4)
    (.seq (.ops [
      ⟨(some 2), (.mv (.const (.int .i64 32))), none⟩])
     .ret)
    .skip))
  (.seq (.ops [
    ⟨(some 5), (.mv (.tmp 0)), none⟩, 
    ⟨(some 6), (.mv (.tmp 0)), none⟩, 
    ⟨(some 7), (.un .neg (.tmp 6)), none⟩, 
    ⟨(some 8), (.bin .and (.tmp 5) (.tmp 7)), none⟩, 
    ⟨(some 9), (.bin .mul (.tmp 8) (.const (.int .u32 125613361))), none⟩, 
    ⟨(some 10), (.bin .shr (.tmp 9) (.const (.int .u64 27))), none⟩, 
    ⟨(some 11), (.idxArrP 32 1 (.global 1) (.tmp 10)), none⟩, 
    ⟨(some 12), (.load1 (.tmp 11)), none⟩, 
    ⟨(some 13), (.convInt .i64 (.tmp 12)), none⟩, 
    ⟨(some 2), (.mv (.tmp 13)), none⟩])
   .ret)))
theorem c69 {args : Array Value} {h : Heap} {R : Ending → Heap → Prop} (ha : args.size ≤ 14) (hh : aexec Tryd.prog ac69 (abody [(.slot 2)] R) ⟨initFr args.toList, []⟩ h) : HCalls Tryd.prog 69 args h R :=
  hcalls_of Tryd.func69 rfl rfl (by kernel_rfl) (by kernel_rfl) ha hh
/-- 70: math/bits.TrailingZeros64 -/
def ac70 : ACode :=
 (.seq (.ops [
  ⟨(some 2), (.mv (.const (.int .i64 0))), none⟩])
 (.seq (.seq (.ops [
    ⟨(some 3), (.mv (.tmp 0)), none⟩, 
    ⟨(some 4), (.bin .eql (.tmp 3) (.const (.int .u64 0))), none⟩])
   (.cond (.tmp 4)
    (.seq (.ops [
      ⟨(some 2), (.mv (.const (.int .i64 64))), none⟩])
     .ret)
    .skip))
  (.seq (.ops [
    ⟨(some 5), (.mv (.tmp 0)), none⟩, 
    ⟨(some 6), (.mv (.tmp 0)), none⟩, 
    ⟨(some 7), (.un .neg (.tmp 6)), none⟩, 
    ⟨(some 8), (.bin .and (.tmp 5) (.tmp 7)), none⟩, 
    ⟨(some 9), (.bin .mul (.tmp 8) (.const (.int .u64 285870213051353865))), none⟩, 
    ⟨(some 10), (.bin .shr (.tmp 9) (.const (.int .u64 58))), none⟩, 
    ⟨(some 11), (.idxArrP 64 1 (.global 2) (.tmp 10)), none⟩, 
    ⟨(some 12), (.load1 (.tmp 11)), none⟩, 
    ⟨(some 13), (.convInt .i64 (.tmp 12)), none⟩, 
    ⟨(some 2), (.mv (.tmp 13)), none⟩])
   .ret)))
theorem c70 {args : Array Value} {h : Heap} {R : Ending → Heap → Prop} (ha : args.size ≤ 14) (hh : aexec Tryd.prog ac70 (abody [(.slot 2)] R) ⟨initFr args.toList, []⟩ h) : HCalls Tryd.prog 70 args h R :=
  hcalls_of Tryd.func70 rfl rfl (by kernel_rfl) (by kernel_rfl) ha hh
/-- 94: gosem.cut.vars -/
def ac94 : ACode :=
 (.seq (.ops [
  ⟨(some 0), (.build [(.int .u8 0), (.int .u8 0), (.int .u8 0), (.int .u8 0), (.int .u8 0), (.int .u8 0), (.int .u8 0), (.int .u8 0), (.int .u8 0), (.int .u8 0), (.int .u8 0), (.int .u8 0), (.int .u8 0), (.int .u8 0), (.int .u8 0), (.int .u8 0), (.int .u8 0), (.int .u8 0), (.int .u8 0), (.int .u8 0), (.int .u8 0), (.int .u8 0), (.int .u8 0), (.int .u8 0), (.int .u8 0), (.int .u8 0), (.int .u8 0), (.int .u8 0), (.int .u8 0), (.int .u8 0), (.int .u8 0), (.int .u8 0)] [(0, 1, (.const (.int .u8 0))), (1, 1, (.const (.int .u8 1))), (2, 1, (.const (.int .u8 28))), (3, 1, (.const (.int .u8 2))), (4, 1, (.const (.int .u8 29))), (5, 1, (.const (.int .u8 14))), (6, 1, (.const (.int .u8 24))), (7, 1, (.const (.int .u8 3))), (8, 1, (.const (.int .u8 30))), (9, 1, (.const (.int .u8 22))), (10, 1, (.const (.int .u8 20))), (11, 1, (.const (.int .u8 15))), (12, 1, (.const (.int .u8 25))), (13, 1, (.const (.int .u8 17))), (14, 1, (.const (.int .u8 4))), (15, 1, (.const (.int .u8 8))), (16, 1, (.const (.int .u8 31))), (17, 1, (.const (.int .u8 27))), (18, 1, (.const (.int .u8 13))), (19, 1, (.const (.int .u8 23))), (20, 1, (.const (.int .u8 21))), (21, 1, (.const (.int .u8 19))), (22, 1, (.const (.int .u8 16))), (23, 1, (.const (.int .u8 7))), (24, 1, (.const (.int .u8 26))), (25, 1, (.const (.int .u8 12))), (26, 1, (.const (.int .u8 18))), (27, 1, (.const (.int .u8 6))), (28, 1, (.const (.int .u8 11))), (29, 1, (.const (.int .u8 5))), (30, 1, (.const (.int .u8 10))), (31, 1, (.const (.int .u8 9)))]), none⟩, 
  ⟨none, (.storeN 32 (.global 1) (.tmp 0)), none⟩])
 (.seq (.ops [
   ⟨(some 1), (.build [(.int .u8 0), (.int .u8 0), (.int .u8 0), (.int .u8 0), (.int .u8 0), (.int .u8 0), (.int .u8 0), (.int .u8 0), (.int .u8 0), (.int .u8 0), (.int .u8 0), (.int .u8 0), (.int .u8 0), (.int .u8 0), (.int .u8 0), (.int .u8 0), (.int .u8 0), (.int .u8 0), (.int .u8 0), (.int .u8 0), (.int .u8 0), (.int .u8 0), (.int .u8 0), (.int .u8 0), (.int .u8 0), (.int .u8 0), (.int .u8 0), (.int .u8 0), (.int .u8 0), (.int .u8 0), (.int .u8 0), (.int .u8 0), (.int .u8 0), (.int .u8 0), (.int .u8 0), (.int .u8 0), (.int .u8 0), (.int .u8 0), (.int .u8 0), (.int .u8 0), (.int .u8 0), (.int .u8 0), (.int .u8 0), (.int .u8 0), (.int .u8 0), (.int .u8 0), (.int .u8 0), (.int .u8 0), (.int .u8 0), (.int .u8 0), (.int .u8 0), (.int .u8 0), (.int .u8 0), (.int .u8 0), (.int .u8 0), (.int .u8 0), (.int .u8 0), (.int .u8 0), (.int .u8 0), (.int .u8 0), (.int .u8 0), (.int .u8 0), (.int .u8 0), (.int .u8 0)] [(0, 1, (.const (.int .u8 0))), (1, 1, (.const (.int .u8 1))), (2, 1, (.const (.int .u8 56))), (3, 1, (.const (.int .u8 2))), (4, 1, (.const (.int .u8 57))), (5, 1, (.const (.int .u8 49))), (6, 1, (.const (.int .u8 28))), (7, 1, (.const (.int .u8 3))), (8, 1, (.const (.int .u8 61))), (9, 1, (.const (.int .u8 58))), (10, 1, (.const (.int .u8 42))), (11, 1, (.const (.int .u8 50))), (12, 1, (.const (.int .u8 38))), (13, 1, (.const (.int .u8 29))), (14, 1, (.const (.int .u8 17))), (15, 1, (.const (.int .u8 4))), (16, 1, (.const (.int .u8 62))), (17, 1, (.const (.int .u8 47))), (18, 1, (.const (.int .u8 59))), (19, 1, (.const (.int .u8 36))), (20, 1, (.const (.int .u8 45))), (21, 1, (.const (.int .u8 43))), (22, 1, (.const (.int .u8 51))), (23, 1, (.const (.int .u8 22))), (24, 1, (.const (.int .u8 53))), (25, 1, (.const (.int .u8 39))), (26, 1, (.const (.int .u8 33))), (27, 1, (.const (.int .u8 30))), (28, 1, (.const (.int .u8 24))), (29, 1, (.const (.int .u8 18))), (30, 1, (.const (.int .u8 12))), (31, 1, (.const (.int .u8 5))), (32, 1, (.const (.int .u8 63))), (33, 1, (.const (.int .u8 55))), (34, 1, (.const (.int .u8 48))), (35, 1, (.const (.int .u8 27))), (36, 1, (.const (.int .u8 60))), (37, 1, (.const (.int .u8 41))), (38, 1, (.const (.int .u8 37))), (39, 1, (.const (.int .u8 16))), (40, 1, (.const (.int .u8 46))), (41, 1, (.const (.int .u8 35))), (42, 1, (.const (.int .u8 44))), (43, 1, (.const (.int .u8 21))), (44, 1, (.const (.int .u8 52))), (45, 1, (.const (.int .u8 32))), (46, 1, (.const (.int .u8 23))), (47, 1, (.const (.int .u8 11))), (48, 1, (.const (.int .u8 54))), (49, 1, (.const (.int .u8 26))), (50, 1, (.const (.int .u8 40))), (51, 1, (.const (.int .u8 15))), (52, 1, (.const (.int .u8 34))), (53, 1, (.const (.int .u8 20))), (54, 1, (.const (.int .u8 31))), (55, 1, (.const (.int .u8 10))), (56, 1, (.const (.int .u8 25))), (57, 1, (.const (.int .u8 14))), (58, 1, (.const (.int .u8 19))), (59, 1, (.const (.int .u8 9))), (60, 1, (.const (.int .u8 13))), (61, 1, (.const (.int .u8 8))), (62, 1, (.const (.int .u8 7))), (63, 1, (.const (.int .u8 6)))]), none⟩, 
   ⟨none, (.storeN 64 (.global 2) (.tmp 1)), none⟩])
  (.ops [
   ⟨(some 2), (.build [(.int .u64 0), (.int .u64 0), (.int .u64 0), (.int .u64 0), (.int .u64 0), (.int .u64 0), (.int .u64 0), (.int .u64 0), (.int .u64 0), (.int .u64 0), (.int .u64 0), (.int .u64 0), (.int .u64 0), (.int .u64 0), (.int .u64 0), (.int .u64 0), (.int .u64 0), (.int .u64 0), (.int .u64 0), (.int .u64 0)] [(0, 1, (.const (.int .u64 1))), (1, 1, (.const (.int .u64 10))), (2, 1, (.const (.int .u64 100))), (3, 1, (.const (.int .u64 1000))), (4, 1, (.const (.int .u64 10000))), (5, 1, (.const (.int .u64 100000))), (6, 1, (.const (.int .u64 1000000))), (7, 1, (.const (.int .u64 10000000))), (8, 1, (.const (.int .u64 100000000))), (9, 1, (.const (.int .u64 1000000000))), (10, 1, (.const (.int .u64 10000000000))), (11, 1, (.const (.int .u64 100000000000))), (12, 1, (.const (.int .u64 1000000000000))), (13, 1, (.const (.int .u64 10000000000000))), (14, 1, (.const (.int .u64 100000000000000))), (15, 1, (.const (.int .u64 1000000000000000))), (16, 1, (.const (.int .u64 10000000000000000))), (17, 1, (.const (.int .u64 100000000000000000))), (18, 1, (.const (.int .u64 1000000000000000000))), (19, 1, (.const (.int .u64 10000000000000000000)))]), none⟩, 
   ⟨none, (.storeN 20 (.global 0) (.tmp 2)), none⟩])))
theorem c94 {args : Array Value} {h : Heap} {R : Ending → Heap → Prop} (ha : args.size ≤ 3) (hh : aexec Tryd.prog ac94 (abody [] R) ⟨initFr args.toList, []⟩ h) : HCalls Tryd.prog 94 args h R :=
  hcalls_of Tryd.func94 rfl rfl (by kernel_rfl) (by kernel_rfl) ha hh
end Go.Proofs.YtmibnfjjlibpgaaDoor.Hc
