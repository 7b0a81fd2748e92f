import Derived.Test.YtkcnjcdggbifeaaProg
import Derived.Test.YtkcnjcdggbifeaaHM
import Derived.KernelRfl
set_option linter.unusedVariables false
namespace Go.Proofs.Ytkcnjcdggbifeaa.Hc
open Go Go.H Go.Proofs
set_option maxRecDepth 100000
/-- 3: credenza/credenzalaw04.CodecWrites -/
def ac3 : ACode :=
 (.seq (.ops [
  ⟨(some 1), (.box 25 (.tmp 0)), none⟩, 
  ⟨(some 2), (.mv (.const (.bool false))), none⟩])
 (.seq (.ops [
   ⟨(some 8), (.loadN 5 (.tmp 1)), none⟩, 
   ⟨(some 9), (.callF 7 [(.tmp 8)]), none⟩, 
   ⟨(some 3), (.new 25 [(.int .i64 0), (.int .i64 0), (.string ⟨#[]⟩), (.slice none 0 0), (.slice none 0 0)]), none⟩, 
   ⟨none, (.storeN 5 (.tmp 3) (.tmp 9)), none⟩])
  (.seq (.ops [
    ⟨(some 11), (.loadN 5 (.tmp 3)), none⟩, 
    ⟨(some 12), (.callF 8 [(.tmp 11)]), none⟩, 
    ⟨(some 10), (.mv (.tmp 12)), none⟩, 
    ⟨(some 13), (.extract (.tmp 10) 0), none⟩, 
    ⟨(some 14), (.extract (.tmp 10) 1), none⟩, 
    ⟨(some 4), (.mv (.tmp 13)), none⟩, 
    ⟨(some 5), (.mv (.tmp 14)), none⟩])
   (.seq (.ops [
     ⟨(some 16), (.loadN 5 (.tmp 1)), none⟩, 
     ⟨(some 17), (.callF 9 [(.tmp 16)]), none⟩, 
     ⟨(some 15), (.mv (.tmp 17)), none⟩, 
     ⟨(some 18), (.extract (.tmp 15) 0), none⟩, 
     ⟨(some 19), (.extract (.tmp 15) 1), none⟩, 
     ⟨(some 6), (.mv (.tmp 18)), none⟩, 
     ⟨(some 7), (.mv (.tmp 19)), none⟩])
    (.seq (.ops [
      ⟨(some 20), (.callF 10 []), none⟩, 
      ⟨(some 21), (.mv (.tmp 20)), none⟩, 
      ⟨(some 22), (.mv (.tmp 4)), (some (21, true))⟩, 
      ⟨(some 23), (.mv (.tmp 6)), (some (21, true))⟩, 
      ⟨(some 24), (.callF 11 [(.tmp 22), (.tmp 23)]), (some (21, true))⟩, 
      ⟨(some 25), (.pick (.tmp 21) (.tmp 24) (.const (.bool false))), none⟩, 
      ⟨(some 26), (.mv (.tmp 25)), none⟩, 
      ⟨(some 27), (.mv (.tmp 5)), (some (26, true))⟩, 
      ⟨(some 28), (.mv (.tmp 7)), (some (26, true))⟩, 
      ⟨(some 29), (.bin .eql (.tmp 27) (.tmp 28)), (some (26, true))⟩, 
      ⟨(some 30), (.pick (.tmp 26) (.tmp 29) (.const (.bool false))), none⟩, 
      ⟨(some 31), (.mv (.tmp 30)), none⟩, 
      ⟨(some 32), (.loadN 5 (.tmp 3)), (some (31, true))⟩, 
      ⟨(some 33), (.loadN 5 (.tmp 1)), (some (31, true))⟩, 
      ⟨(some 34), (.callF 12 [(.tmp 32), (.tmp 33)]), (some (31, true))⟩, 
      ⟨(some 35), (.pick (.tmp 31) (.tmp 34) (.const (.bool false))), none⟩, 
      ⟨(some 2), (.mv (.tmp 35)), none⟩])
     .ret)))))
theorem c3 {args : Array Value} {h : Heap} {R : Ending → Heap → Prop} (ha : args.size ≤ 36) (hh : aexec Try.prog ac3 (abody [(.slot 2)] R) ⟨initFr args.toList, []⟩ h) : HCalls Try.prog 3 args h R :=
  hcalls_of Try.func3 rfl rfl (by kernel_rfl) (by kernel_rfl) ha hh
/-- 4: credenza/credenzalaw04.CodecReads -/
def ac4 : ACode :=
 (.seq (.ops [
  ⟨(some 2), (.mv (.const (.bool false))), none⟩])
 (.seq (.ops [
   ⟨(some 14), (.mv (.tmp 0)), none⟩, 
   ⟨(some 15), (.append 5 1 1 [(.int .u8 0)] (.const (.slice none 0 0)) (.tmp 14)), none⟩, 
   ⟨(some 3), (.mv (.tmp 15)), none⟩])
  (.seq (.ops [
    ⟨(some 17), (.mv (.tmp 3)), none⟩, 
    ⟨(some 18), (.callF 13 [(.tmp 17)]), none⟩, 
    ⟨(some 16), (.mv (.tmp 18)), none⟩, 
    ⟨(some 19), (.extract (.tmp 16) 0), none⟩, 
    ⟨(some 20), (.extract (.tmp 16) 1), none⟩, 
    ⟨(some 21), (.extract (.tmp 16) 2), none⟩, 
    ⟨(some 4), (.new 25 [(.int .i64 0), (.int .i64 0), (.string ⟨#[]⟩), (.slice none 0 0), (.slice none 0 0)]), none⟩, 
    ⟨none, (.storeN 5 (.tmp 4) (.tmp 19)), none⟩, 
    ⟨(some 5), (.mv (.tmp 20)), none⟩, 
    ⟨(some 6), (.mv (.tmp 21)), none⟩])
   (.seq (.ops [
     ⟨(some 23), (.mv (.tmp 0)), none⟩, 
     ⟨(some 24), (.callF 14 [(.tmp 23)]), none⟩, 
     ⟨(some 22), (.mv (.tmp 24)), none⟩, 
     ⟨(some 25), (.extract (.tmp 22) 0), none⟩, 
     ⟨(some 26), (.extract (.tmp 22) 1), none⟩, 
     ⟨(some 27), (.extract (.tmp 22) 2), none⟩, 
     ⟨(some 7), (.new 25 [(.int .i64 0), (.int .i64 0), (.string ⟨#[]⟩), (.slice none 0 0), (.slice none 0 0)]), none⟩, 
     ⟨none, (.storeN 5 (.tmp 7) (.tmp 25)), none⟩, 
     ⟨(some 8), (.mv (.tmp 26)), none⟩, 
     ⟨(some 9), (.mv (.tmp 27)), none⟩])
    (.seq (.ops [
      ⟨(some 29), (.mv (.tmp 3)), none⟩, 
      ⟨(some 30), (.callF 15 [(.tmp 29)]), none⟩, 
      ⟨(some 28), (.mv (.tmp 30)), none⟩, 
      ⟨(some 31), (.extract (.tmp 28) 0), none⟩, 
      ⟨(some 32), (.extract (.tmp 28) 1), none⟩, 
      ⟨(some 10), (.new 25 [(.int .i64 0), (.int .i64 0), (.string ⟨#[]⟩), (.slice none 0 0), (.slice none 0 0)]), none⟩, 
      ⟨none, (.storeN 5 (.tmp 10) (.tmp 31)), none⟩, 
      ⟨(some 11), (.mv (.tmp 32)), none⟩])
     (.seq (.ops [
       ⟨(some 34), (.mv (.tmp 0)), none⟩, 
       ⟨(some 35), (.callF 16 [(.tmp 34)]), none⟩, 
       ⟨(some 33), (.mv (.tmp 35)), none⟩, 
       ⟨(some 36), (.extract (.tmp 33) 0), none⟩, 
       ⟨(some 37), (.extract (.tmp 33) 1), none⟩, 
       ⟨(some 12), (.new 25 [(.int .i64 0), (.int .i64 0), (.string ⟨#[]⟩), (.slice none 0 0), (.slice none 0 0)]), none⟩, 
       ⟨none, (.storeN 5 (.tmp 12) (.tmp 36)), none⟩, 
       ⟨(some 13), (.mv (.tmp 37)), none⟩])
      (.seq (.ops [
        ⟨(some 38), (.callF 10 []), none⟩, 
        ⟨(some 39), (.mv (.tmp 38)), none⟩, 
        ⟨(some 40), (.loadN 5 (.tmp 4)), (some (39, true))⟩, 
        ⟨(some 41), (.loadN 5 (.tmp 7)), (some (39, true))⟩, 
        ⟨(some 42), (.callF 12 [(.tmp 40), (.tmp 41)]), (some (39, true))⟩, 
        ⟨(some 43), (.pick (.tmp 39) (.tmp 42) (.const (.bool false))), none⟩, 
        ⟨(some 44), (.mv (.tmp 43)), none⟩, 
        ⟨(some 45), (.mv (.tmp 5)), (some (44, true))⟩, 
        ⟨(some 46), (.mv (.tmp 8)), (some (44, true))⟩, 
        ⟨(some 47), (.bin .eql (.tmp 45) (.tmp 46)), (some (44, true))⟩, 
        ⟨(some 48), (.pick (.tmp 44) (.tmp 47) (.const (.bool false))), none⟩, 
        ⟨(some 49), (.mv (.tmp 48)), none⟩, 
        ⟨(some 50), (.mv (.tmp 6)), (some (49, true))⟩, 
        ⟨(some 51), (.mv (.tmp 9)), (some (49, true))⟩, 
        ⟨(some 52), (.bin .eql (.tmp 50) (.tmp 51)), (some (49, true))⟩, 
        ⟨(some 53), (.pick (.tmp 49) (.tmp 52) (.const (.bool false))), none⟩, 
        ⟨(some 54), (.mv (.tmp 53)), none⟩, 
        ⟨(some 55), (.loadN 5 (.tmp 10)), (some (54, true))⟩, 
        ⟨(some 56), (.loadN 5 (.tmp 12)), (some (54, true))⟩, 
        ⟨(some 57), (.callF 12 [(.tmp 55), (.tmp 56)]), (some (54, true))⟩, 
        ⟨(some 58), (.pick (.tmp 54) (.tmp 57) (.const (.bool false))), none⟩, 
        ⟨(some 59), (.mv (.tmp 58)), none⟩, 
        ⟨(some 60), (.mv (.tmp 11)), (some (59, true))⟩, 
        ⟨(some 61), (.mv (.tmp 13)), (some (59, true))⟩, 
        ⟨(some 62), (.bin .eql (.tmp 60) (.tmp 61)), (some (59, true))⟩, 
        ⟨(some 63), (.pick (.tmp 59) (.tmp 62) (.const (.bool false))), none⟩, 
        ⟨(some 64), (.mv (.tmp 63)), none⟩, 
        ⟨(some 65), (.mv (.tmp 3)), (some (64, true))⟩, 
        ⟨(some 66), (.mv (.tmp 0)), (some (64, true))⟩, 
        ⟨(some 67), (.callF 11 [(.tmp 65), (.tmp 66)]), (some (64, true))⟩, 
        ⟨(some 68), (.pick (.tmp 64) (.tmp 67) (.const (.bool false))), none⟩, 
        ⟨(some 2), (.mv (.tmp 68)), none⟩])
       .ret)))))))
theorem c4 {args : Array Value} {h : Heap} {R : Ending → Heap → Prop} (ha : args.size ≤ 69) (hh : aexec Try.prog ac4 (abody [(.slot 2)] R) ⟨initFr args.toList, []⟩ h) : HCalls Try.prog 4 args h R :=
  hcalls_of Try.func4 rfl rfl (by kernel_rfl) (by kernel_rfl) ha hh
/-- 5: credenza/credenzalaw04.CodecOne -/
def ac5 : ACode :=
 (.seq (.ops [
  ⟨(some 2), (.mv (.const (.bool false))), none⟩])
 (.seq (.ops [
   ⟨(some 8), (.callF 10 []), none⟩, 
   ⟨(some 3), (.mv (.tmp 8)), none⟩])
  (.seq (.ops [
    ⟨(some 10), (.mv (.tmp 0)), none⟩, 
    ⟨(some 11), (.callF 15 [(.tmp 10)]), none⟩, 
    ⟨(some 9), (.mv (.tmp 11)), none⟩, 
    ⟨(some 12), (.extract (.tmp 9) 0), none⟩, 
    ⟨(some 13), (.extract (.tmp 9) 1), none⟩, 
    ⟨(some 4), (.new 25 [(.int .i64 0), (.int .i64 0), (.string ⟨#[]⟩), (.slice none 0 0), (.slice none 0 0)]), none⟩, 
    ⟨none, (.storeN 5 (.tmp 4) (.tmp 12)), none⟩, 
    ⟨(some 5), (.mv (.tmp 13)), none⟩])
   (.seq (.seq (.ops [
      ⟨(some 14), (.mv (.tmp 5)), none⟩, 
      ⟨(some 15), (.bin .neq (.tmp 14) (.const (.int .i64 0))), none⟩])
     (.cond (.tmp 15)
      (.seq (.ops [
        ⟨(some 16), (.mv (.tmp 3)), none⟩, 
        ⟨(some 2), (.mv (.tmp 16)), none⟩])
       .ret)
      .skip))
    (.seq (.ops [
      ⟨(some 18), (.loadN 5 (.tmp 4)), none⟩, 
      ⟨(some 19), (.callF 8 [(.tmp 18)]), none⟩, 
      ⟨(some 17), (.mv (.tmp 19)), none⟩, 
      ⟨(some 20), (.extract (.tmp 17) 0), none⟩, 
      ⟨(some 21), (.extract (.tmp 17) 1), none⟩, 
      ⟨(some 6), (.mv (.tmp 20)), none⟩, 
      ⟨(some 7), (.mv (.tmp 21)), none⟩])
     (.seq (.ops [
       ⟨(some 22), (.mv (.tmp 3)), none⟩, 
       ⟨(some 23), (.mv (.tmp 22)), none⟩, 
       ⟨(some 24), (.mv (.tmp 7)), (some (23, true))⟩, 
       ⟨(some 25), (.bin .eql (.tmp 24) (.const (.int .i64 0))), (some (23, true))⟩, 
       ⟨(some 26), (.pick (.tmp 23) (.tmp 25) (.const (.bool false))), none⟩, 
       ⟨(some 27), (.mv (.tmp 26)), none⟩, 
       ⟨(some 28), (.mv (.tmp 6)), (some (27, true))⟩, 
       ⟨(some 29), (.mv (.tmp 0)), (some (27, true))⟩, 
       ⟨(some 30), (.callF 11 [(.tmp 28), (.tmp 29)]), (some (27, true))⟩, 
       ⟨(some 31), (.pick (.tmp 27) (.tmp 30) (.const (.bool false))), none⟩, 
       ⟨(some 2), (.mv (.tmp 31)), none⟩])
      .ret))))))
theorem c5 {args : Array Value} {h : Heap} {R : Ending → Heap → Prop} (ha : args.size ≤ 32) (hh : aexec Try.prog ac5 (abody [(.slot 2)] R) ⟨initFr args.toList, []⟩ h) : HCalls Try.prog 5 args h R :=
  hcalls_of Try.func5 rfl rfl (by kernel_rfl) (by kernel_rfl) ha hh
/-- 6: credenza/credenzalaw04.CodecApart -/
def ac6 : ACode :=
 (.seq (.ops [
  ⟨(some 2), (.box 25 (.tmp 0)), none⟩, 
  ⟨(some 3), (.box 25 (.tmp 1)), none⟩, 
  ⟨(some 4), (.mv (.const (.bool false))), none⟩])
 (.seq (.ops [
   ⟨(some 11), (.callF 10 []), none⟩, 
   ⟨(some 5), (.mv (.tmp 11)), none⟩])
  (.seq (.ops [
    ⟨(some 13), (.loadN 5 (.tmp 2)), none⟩, 
    ⟨(some 14), (.callF 8 [(.tmp 13)]), none⟩, 
    ⟨(some 12), (.mv (.tmp 14)), none⟩, 
    ⟨(some 15), (.extract (.tmp 12) 0), none⟩, 
    ⟨(some 16), (.extract (.tmp 12) 1), none⟩, 
    ⟨(some 6), (.mv (.tmp 15)), none⟩, 
    ⟨(some 7), (.mv (.tmp 16)), none⟩])
   (.seq (.ops [
     ⟨(some 18), (.loadN 5 (.tmp 3)), none⟩, 
     ⟨(some 19), (.callF 8 [(.tmp 18)]), none⟩, 
     ⟨(some 17), (.mv (.tmp 19)), none⟩, 
     ⟨(some 20), (.extract (.tmp 17) 0), none⟩, 
     ⟨(some 21), (.extract (.tmp 17) 1), none⟩, 
     ⟨(some 8), (.mv (.tmp 20)), none⟩, 
     ⟨(some 9), (.mv (.tmp 21)), none⟩])
    (.seq (.seq (.ops [
       ⟨(some 22), (.mv (.tmp 7)), none⟩, 
       ⟨(some 23), (.bin .neq (.tmp 22) (.const (.int .i64 0))), none⟩, 
       ⟨(some 24), (.mv (.tmp 23)), none⟩, 
       ⟨(some 25), (.mv (.tmp 9)), (some (24, false))⟩, 
       ⟨(some 26), (.bin .neq (.tmp 25) (.const (.int .i64 0))), (some (24, false))⟩, 
       ⟨(some 27), (.pick (.tmp 24) (.const (.bool true)) (.tmp 26)), none⟩])
      (.cond (.tmp 27)
       (.seq (.ops [
         ⟨(some 28), (.mv (.tmp 5)), none⟩, 
         ⟨(some 4), (.mv (.tmp 28)), none⟩])
        .ret)
       .skip))
     (.seq (.ops [
       ⟨(some 29), (.mv (.tmp 6)), none⟩, 
       ⟨(some 30), (.lenSl (.tmp 29)), none⟩, 
       ⟨(some 31), (.mv (.tmp 8)), none⟩, 
       ⟨(some 32), (.lenSl (.tmp 31)), none⟩, 
       ⟨(some 33), (.minmax false (.tmp 30) [(.tmp 32)]), none⟩, 
       ⟨(some 10), (.mv (.tmp 33)), none⟩])
      (.seq (.seq (.any [34, 35, 36, 37, 38, 39, 40, 41, 42, 43, 44, 45, 46, 47, 4] [
         ⟨(some 34), (.mv (.tmp 5)), none⟩, 
         ⟨(some 35), (.mv (.tmp 34)), none⟩, 
         ⟨(some 36), (.mv (.tmp 6)), (some (35, true))⟩, 
         ⟨(some 37), (.mv (.tmp 10)), (some (35, true))⟩, 
         ⟨(some 38), (.sliceSl 1 (.tmp 36) none (some (.tmp 37)) none), (some (35, true))⟩, 
         ⟨(some 39), (.mv (.tmp 8)), (some (35, true))⟩, 
         ⟨(some 40), (.mv (.tmp 10)), (some (35, true))⟩, 
         ⟨(some 41), (.sliceSl 1 (.tmp 39) none (some (.tmp 40)) none), (some (35, true))⟩])
        (.alt
         (.any [34, 35, 36, 37, 38, 39, 40, 41, 42, 43, 44, 45, 46, 47, 4] [
          ⟨(some 42), (.callF 11 [(.tmp 38), (.tmp 41)]), (some (35, true))⟩, 
          ⟨(some 43), (.loadN 5 (.tmp 2)), (some (35, true))⟩, 
          ⟨(some 44), (.loadN 5 (.tmp 3)), (some (35, true))⟩, 
          ⟨(some 45), (.callF 12 [(.tmp 43), (.tmp 44)]), (some (35, true))⟩, 
          ⟨(some 46), (.eqB false (.tmp 42) (.tmp 45)), (some (35, true))⟩, 
          ⟨(some 47), (.pick (.tmp 35) (.tmp 46) (.const (.bool false))), none⟩, 
          ⟨(some 4), (.mv (.tmp 47)), none⟩])
         (.alt
          (.seq (.any [34, 35, 36, 37, 38, 39, 40, 41, 42, 43, 44, 45, 46, 47, 4] [
            ⟨(some 43), (.loadN 5 (.tmp 2)), (some (35, true))⟩])
           (.alt
            (.any [34, 35, 36, 37, 38, 39, 40, 41, 42, 43, 44, 45, 46, 47, 4] [
             ⟨(some 42), (.callF 11 [(.tmp 38), (.tmp 41)]), (some (35, true))⟩, 
             ⟨(some 44), (.loadN 5 (.tmp 3)), (some (35, true))⟩, 
             ⟨(some 45), (.callF 12 [(.tmp 43), (.tmp 44)]), (some (35, true))⟩, 
             ⟨(some 46), (.eqB false (.tmp 42) (.tmp 45)), (some (35, true))⟩, 
             ⟨(some 47), (.pick (.tmp 35) (.tmp 46) (.const (.bool false))), none⟩, 
             ⟨(some 4), (.mv (.tmp 47)), none⟩])
            (.any [34, 35, 36, 37, 38, 39, 40, 41, 42, 43, 44, 45, 46, 47, 4] [
             ⟨(some 44), (.loadN 5 (.tmp 3)), (some (35, true))⟩, 
             ⟨(some 42), (.callF 11 [(.tmp 38), (.tmp 41)]), (some (35, true))⟩, 
             ⟨(some 45), (.callF 12 [(.tmp 43), (.tmp 44)]), (some (35, true))⟩, 
             ⟨(some 46), (.eqB false (.tmp 42) (.tmp 45)), (some (35, true))⟩, 
             ⟨(some 47), (.pick (.tmp 35) (.tmp 46) (.const (.bool false))), none⟩, 
             ⟨(some 4), (.mv (.tmp 47)), none⟩])))
          (.seq (.any [34, 35, 36, 37, 38, 39, 40, 41, 42, 43, 44, 45, 46, 47, 4] [
            ⟨(some 44), (.loadN 5 (.tmp 3)), (some (35, true))⟩])
           (.alt
            (.any [34, 35, 36, 37, 38, 39, 40, 41, 42, 43, 44, 45, 46, 47, 4] [
             ⟨(some 42), (.callF 11 [(.tmp 38), (.tmp 41)]), (some (35, true))⟩, 
             ⟨(some 43), (.loadN 5 (.tmp 2)), (some (35, true))⟩, 
             ⟨(some 45), (.callF 12 [(.tmp 43), (.tmp 44)]), (some (35, true))⟩, 
             ⟨(some 46), (.eqB false (.tmp 42) (.tmp 45)), (some (35, true))⟩, 
             ⟨(some 47), (.pick (.tmp 35) (.tmp 46) (.const (.bool false))), none⟩, 
             ⟨(some 4), (.mv (.tmp 47)), none⟩])
            (.any [34, 35, 36, 37, 38, 39, 40, 41, 42, 43, 44, 45, 46, 47, 4] [
             ⟨(some 43), (.loadN 5 (.tmp 2)), (some (35, true))⟩, 
             ⟨(some 42), (.callF 11 [(.tmp 38), (.tmp 41)]), (some (35, true))⟩, 
             ⟨(some 45), (.callF 12 [(.tmp 43), (.tmp 44)]), (some (35, true))⟩, 
             ⟨(some 46), (.eqB false (.tmp 42) (.tmp 45)), (some (35, true))⟩, 
             ⟨(some 47), (.pick (.tmp 35) (.tmp 46) (.const (.bool false))), none⟩, 
             ⟨(some 4), (.mv (.tmp 47)), none⟩]))))))
       .ret)))))))
theorem c6 {args : Array Value} {h : Heap} {R : Ending → Heap → Prop} (ha : args.size ≤ 48) (hh : aexec Try.prog ac6 (abody [(.slot 4)] R) ⟨initFr args.toList, []⟩ h) : HCalls Try.prog 6 args h R :=
  hcalls_of Try.func6 rfl rfl (by kernel_rfl) (by kernel_rfl) ha hh
/-- 7: credenza/credenzaref03.Copy -/
def ac7 : ACode :=
 (.seq (.ops [
  ⟨(some 1), (.box 25 (.tmp 0)), none⟩, 
  ⟨(some 2), (.new 25 [(.int .i64 0), (.int .i64 0), (.string ⟨#[]⟩), (.slice none 0 0), (.slice none 0 0)]), none⟩])
 (.seq (.seq (.any [6, 7, 8, 9, 10, 11, 12, 13, 14, 15, 3] [
    ⟨(some 6), (.fieldAddr 0 (.tmp 1)), none⟩, 
    ⟨(some 7), (.load1 (.tmp 6)), none⟩, 
    ⟨(some 8), (.fieldAddr 1 (.tmp 1)), none⟩, 
    ⟨(some 9), (.load1 (.tmp 8)), none⟩, 
    ⟨(some 10), (.fieldAddr 2 (.tmp 1)), none⟩, 
    ⟨(some 11), (.load1 (.tmp 10)), none⟩, 
    ⟨(some 12), (.fieldAddr 3 (.tmp 1)), none⟩, 
    ⟨(some 13), (.load1 (.tmp 12)), none⟩])
   (.alt
    (.any [6, 7, 8, 9, 10, 11, 12, 13, 14, 15, 3] [
     ⟨(some 14), (.append 9 1 16 [(.string ⟨#[]⟩)] (.const (.slice none 0 0)) (.tmp 13)), none⟩, 
     ⟨(some 15), (.build [(.int .i64 0), (.int .i64 0), (.string ⟨#[]⟩), (.slice none 0 0), (.slice none 0 0)] [(0, 1, (.tmp 7)), (1, 1, (.tmp 9)), (2, 1, (.tmp 11)), (3, 1, (.tmp 14))]), none⟩, 
     ⟨(some 3), (.new 25 [(.int .i64 0), (.int .i64 0), (.string ⟨#[]⟩), (.slice none 0 0), (.slice none 0 0)]), none⟩, 
     ⟨none, (.storeN 5 (.tmp 3) (.tmp 15)), none⟩])
    (.any [6, 7, 8, 9, 10, 11, 12, 13, 14, 15, 3] [
     ⟨(some 3), (.new 25 [(.int .i64 0), (.int .i64 0), (.string ⟨#[]⟩), (.slice none 0 0), (.slice none 0 0)]), none⟩, 
     ⟨(some 14), (.append 9 1 16 [(.string ⟨#[]⟩)] (.const (.slice none 0 0)) (.tmp 13)), none⟩, 
     ⟨(some 15), (.build [(.int .i64 0), (.int .i64 0), (.string ⟨#[]⟩), (.slice none 0 0), (.slice none 0 0)] [(0, 1, (.tmp 7)), (1, 1, (.tmp 9)), (2, 1, (.tmp 11)), (3, 1, (.tmp 14))]), none⟩, 
     ⟨none, (.storeN 5 (.tmp 3) (.tmp 15)), none⟩])))
  (.seq (.seq (.ops [
     ⟨(some 16), (.fieldAddr 4 (.tmp 1)), none⟩, 
     ⟨(some 17), (.load1 (.tmp 16)), none⟩, 
     ⟨(some 18), (.lenSl (.tmp 17)), none⟩, 
     ⟨(some 19), (.mv (.const (.int .i64 0))), none⟩])
    (.block 0
     (.loop
      (.seq (.ops [
        ⟨(some 20), (.bin .lss (.tmp 19) (.tmp 18)), none⟩])
       (.seq (.cond (.tmp 20)
         .skip
         (.exit 0))
        (.seq (.block 1
          (.seq (.ops [
            ⟨(some 21), (.idxSl 5 (.tmp 17) (.tmp 19)), none⟩, 
            ⟨(some 22), (.loadN 5 (.tmp 21)), none⟩, 
            ⟨(some 5), (.new 25 [(.int .i64 0), (.int .i64 0), (.string ⟨#[]⟩), (.slice none 0 0), (.slice none 0 0)]), none⟩, 
            ⟨none, (.storeN 5 (.tmp 5) (.tmp 22)), none⟩])
           (.seq (.any [23, 24, 25, 26, 27, 28, 29] [
             ⟨(some 23), (.fieldAddr 4 (.tmp 3)), none⟩, 
             ⟨(some 25), (.loadN 5 (.tmp 5)), none⟩])
            (.alt
             (.any [23, 24, 25, 26, 27, 28, 29] [
              ⟨(some 24), (.load1 (.tmp 23)), none⟩, 
              ⟨(some 26), (.callF 7 [(.tmp 25)]), none⟩, 
              ⟨(some 27), (.buildSlice 25 1 [(.int .i64 0), (.int .i64 0), (.string ⟨#[]⟩), (.slice none 0 0), (.slice none 0 0)] [(0, 5, (.tmp 26))]), none⟩, 
              ⟨(some 28), (.append 25 5 80 [(.int .i64 0), (.int .i64 0), (.string ⟨#[]⟩), (.slice none 0 0), (.slice none 0 0)] (.tmp 24) (.tmp 27)), none⟩, 
              ⟨(some 29), (.fieldAddr 4 (.tmp 3)), none⟩, 
              ⟨none, (.store1 (.tmp 29) (.tmp 28)), none⟩])
             (.any [23, 24, 25, 26, 27, 28, 29] [
              ⟨(some 26), (.callF 7 [(.tmp 25)]), none⟩, 
              ⟨(some 24), (.load1 (.tmp 23)), none⟩, 
              ⟨(some 27), (.buildSlice 25 1 [(.int .i64 0), (.int .i64 0), (.string ⟨#[]⟩), (.slice none 0 0), (.slice none 0 0)] [(0, 5, (.tmp 26))]), none⟩, 
              ⟨(some 28), (.append 25 5 80 [(.int .i64 0), (.int .i64 0), (.string ⟨#[]⟩), (.slice none 0 0), (.slice none 0 0)] (.tmp 24) (.tmp 27)), none⟩, 
              ⟨(some 29), (.fieldAddr 4 (.tmp 3)), none⟩, 
              ⟨none, (.store1 (.tmp 29) (.tmp 28)), none⟩])))))
         (.ops [
          ⟨(some 30), (.bin .add (.tmp 19) (.const (.int .i64 1))), none⟩, 
          ⟨(some 19), (.mv (.tmp 30)), none⟩])))))))
   (.seq (.ops [
     ⟨(some 31), (.loadN 5 (.tmp 3)), none⟩, 
     ⟨none, (.storeN 5 (.tmp 2) (.tmp 31)), none⟩])
    .ret))))
theorem c7 {args : Array Value} {h : Heap} {R : Ending → Heap → Prop} (ha : args.size ≤ 32) (hh : aexec Try.prog ac7 (abody [(.cellN 2 5)] R) ⟨initFr args.toList, []⟩ h) : HCalls Try.prog 7 args h R :=
  hcalls_of Try.func7 rfl rfl (by kernel_rfl) (by kernel_rfl) ha hh
/-- 8: credenza/codec.Encode -/
def ac8 : ACode :=
 (.seq (.ops [
  ⟨(some 1), (.box 25 (.tmp 0)), none⟩, 
  ⟨(some 2), (.mv (.const (.slice none 0 0))), none⟩, 
  ⟨(some 3), (.mv (.const (.int .i64 0))), none⟩])
 (.seq (.seq (.ops [
    ⟨(some 5), (.loadN 5 (.tmp 1)), none⟩, 
    ⟨(some 6), (.callF 17 [(.tmp 5)]), none⟩, 
    ⟨(some 4), (.mv (.tmp 6)), none⟩])
   (.seq (.ops [
     ⟨(some 7), (.mv (.tmp 4)), none⟩, 
     ⟨(some 8), (.bin .neq (.tmp 7) (.const (.int .i64 0))), none⟩])
    (.cond (.tmp 8)
     (.seq (.ops [
       ⟨(some 9), (.mv (.tmp 4)), none⟩, 
       ⟨(some 2), (.mv (.const (.slice none 0 0))), none⟩, 
       ⟨(some 3), (.mv (.tmp 9)), none⟩])
      .ret)
     .skip)))
  (.seq (.ops [
    ⟨(some 10), (.loadN 5 (.tmp 1)), none⟩, 
    ⟨(some 11), (.callF 18 [(.const (.slice none 0 0)), (.tmp 10)]), none⟩, 
    ⟨(some 2), (.mv (.tmp 11)), none⟩, 
    ⟨(some 3), (.mv (.const (.int .i64 0))), none⟩])
   .ret)))
theorem c8 {args : Array Value} {h : Heap} {R : Ending → Heap → Prop} (ha : args.size ≤ 12) (hh : aexec Try.prog ac8 (abody [(.slot 2), (.slot 3)] R) ⟨initFr args.toList, []⟩ h) : HCalls Try.prog 8 args h R :=
  hcalls_of Try.func8 rfl rfl (by kernel_rfl) (by kernel_rfl) ha hh
/-- 9: credenza/credenzaref04.Encode -/
def ac9 : ACode :=
 (.seq (.ops [
  ⟨(some 1), (.box 25 (.tmp 0)), none⟩, 
  ⟨(some 2), (.mv (.const (.slice none 0 0))), none⟩, 
  ⟨(some 3), (.mv (.const (.int .i64 0))), none⟩])
 (.seq (.seq (.ops [
    ⟨(some 5), (.loadN 5 (.tmp 1)), none⟩, 
    ⟨(some 6), (.callF 19 [(.tmp 5)]), none⟩, 
    ⟨(some 4), (.mv (.tmp 6)), none⟩])
   (.seq (.ops [
     ⟨(some 7), (.mv (.tmp 4)), none⟩, 
     ⟨(some 8), (.bin .neq (.tmp 7) (.const (.int .i64 0))), none⟩])
    (.cond (.tmp 8)
     (.seq (.ops [
       ⟨(some 9), (.mv (.tmp 4)), none⟩, 
       ⟨(some 2), (.mv (.const (.slice none 0 0))), none⟩, 
       ⟨(some 3), (.mv (.tmp 9)), none⟩])
      .ret)
     .skip)))
  (.seq (.ops [
    ⟨(some 10), (.loadN 5 (.tmp 1)), none⟩, 
    ⟨(some 11), (.callF 20 [(.tmp 10)]), none⟩, 
    ⟨(some 2), (.mv (.tmp 11)), none⟩, 
    ⟨(some 3), (.mv (.const (.int .i64 0))), none⟩])
   .ret)))
theorem c9 {args : Array Value} {h : Heap} {R : Ending → Heap → Prop} (ha : args.size ≤ 12) (hh : aexec Try.prog ac9 (abody [(.slot 2), (.slot 3)] R) ⟨initFr args.toList, []⟩ h) : HCalls Try.prog 9 args h R :=
  hcalls_of Try.func9 rfl rfl (by kernel_rfl) (by kernel_rfl) ha hh
/-- 10: credenza/credenzalaw04.live -/
def ac10 : ACode :=
 (.seq (.ops [
  ⟨(some 0), (.mv (.const (.bool false))), none⟩])
 (.seq (.ops [
   ⟨(some 8), (.build [(.int .i64 0), (.int .i64 0), (.string ⟨#[]⟩), (.slice none 0 0), (.slice none 0 0)] [(0, 1, (.const (.int .i64 3))), (1, 1, (.const (.int .i64 1)))]), none⟩, 
   ⟨(some 9), (.build [(.int .i64 0), (.int .i64 0), (.string ⟨#[]⟩), (.slice none 0 0), (.slice none 0 0)] [(0, 1, (.const (.int .i64 3))), (1, 1, (.const (.int .i64 (-1))))]), none⟩, 
   ⟨(some 10), (.buildSlice 25 2 [(.int .i64 0), (.int .i64 0), (.string ⟨#[]⟩), (.slice none 0 0), (.slice none 0 0), (.int .i64 0), (.int .i64 0), (.string ⟨#[]⟩), (.slice none 0 0), (.slice none 0 0)] [(0, 5, (.tmp 8)), (5, 5, (.tmp 9))]), none⟩, 
   ⟨(some 11), (.build [(.int .i64 0), (.int .i64 0), (.string ⟨#[]⟩), (.slice none 0 0), (.slice none 0 0)] [(0, 1, (.const (.int .i64 5))), (4, 1, (.tmp 10))]), none⟩, 
   ⟨(some 1), (.new 25 [(.int .i64 0), (.int .i64 0), (.string ⟨#[]⟩), (.slice none 0 0), (.slice none 0 0)]), none⟩, 
   ⟨none, (.storeN 5 (.tmp 1) (.tmp 11)), none⟩])
  (.seq (.ops [
    ⟨(some 13), (.loadN 5 (.tmp 1)), none⟩, 
    ⟨(some 14), (.callF 8 [(.tmp 13)]), none⟩, 
    ⟨(some 12), (.mv (.tmp 14)), none⟩, 
    ⟨(some 15), (.extract (.tmp 12) 0), none⟩, 
    ⟨(some 16), (.extract (.tmp 12) 1), none⟩, 
    ⟨(some 2), (.mv (.tmp 15)), none⟩, 
    ⟨(some 3), (.mv (.tmp 16)), none⟩])
   (.seq (.ops [
     ⟨(some 18), (.buildSlice 5 3 [(.int .u8 0), (.int .u8 0), (.int .u8 0)] [(0, 1, (.const (.int .u8 5))), (1, 1, (.const (.int .u8 0))), (2, 1, (.const (.int .u8 0)))]), none⟩, 
     ⟨(some 19), (.callF 15 [(.tmp 18)]), none⟩, 
     ⟨(some 17), (.mv (.tmp 19)), none⟩, 
     ⟨(some 20), (.extract (.tmp 17) 0), none⟩, 
     ⟨(some 21), (.extract (.tmp 17) 1), none⟩, 
     ⟨(some 4), (.new 25 [(.int .i64 0), (.int .i64 0), (.string ⟨#[]⟩), (.slice none 0 0), (.slice none 0 0)]), none⟩, 
     ⟨none, (.storeN 5 (.tmp 4) (.tmp 20)), none⟩, 
     ⟨(some 5), (.mv (.tmp 21)), none⟩])
    (.seq (.ops [
      ⟨(some 23), (.mv (.tmp 2)), none⟩, 
      ⟨(some 24), (.callF 15 [(.tmp 23)]), none⟩, 
      ⟨(some 22), (.mv (.tmp 24)), none⟩, 
      ⟨(some 25), (.extract (.tmp 22) 0), none⟩, 
      ⟨(some 26), (.extract (.tmp 22) 1), none⟩, 
      ⟨(some 6), (.new 25 [(.int .i64 0), (.int .i64 0), (.string ⟨#[]⟩), (.slice none 0 0), (.slice none 0 0)]), none⟩, 
      ⟨none, (.storeN 5 (.tmp 6) (.tmp 25)), none⟩, 
      ⟨(some 7), (.mv (.tmp 26)), none⟩])
     (.seq (.ops [
       ⟨(some 27), (.mv (.tmp 2)), none⟩, 
       ⟨(some 28), (.buildSlice 5 6 [(.int .u8 0), (.int .u8 0), (.int .u8 0), (.int .u8 0), (.int .u8 0), (.int .u8 0)] [(0, 1, (.const (.int .u8 7))), (1, 1, (.const (.int .u8 2))), (2, 1, (.const (.int .u8 4))), (3, 1, (.const (.int .u8 1))), (4, 1, (.const (.int .u8 5))), (5, 1, (.const (.int .u8 0)))]), none⟩, 
       ⟨(some 29), (.callF 11 [(.tmp 27), (.tmp 28)]), none⟩, 
       ⟨(some 30), (.mv (.tmp 29)), none⟩, 
       ⟨(some 31), (.mv (.tmp 3)), (some (30, true))⟩, 
       ⟨(some 32), (.bin .eql (.tmp 31) (.const (.int .i64 0))), (some (30, true))⟩, 
       ⟨(some 33), (.pick (.tmp 30) (.tmp 32) (.const (.bool false))), none⟩, 
       ⟨(some 34), (.mv (.tmp 33)), none⟩, 
       ⟨(some 35), (.mv (.tmp 5)), (some (34, true))⟩, 
       ⟨(some 36), (.bin .eql (.tmp 35) (.const (.int .i64 22))), (some (34, true))⟩, 
       ⟨(some 37), (.pick (.tmp 34) (.tmp 36) (.const (.bool false))), none⟩, 
       ⟨(some 38), (.mv (.tmp 37)), none⟩, 
       ⟨(some 39), (.mv (.tmp 7)), (some (38, true))⟩, 
       ⟨(some 40), (.bin .eql (.tmp 39) (.const (.int .i64 0))), (some (38, true))⟩, 
       ⟨(some 41), (.pick (.tmp 38) (.tmp 40) (.const (.bool false))), none⟩, 
       ⟨(some 42), (.mv (.tmp 41)), none⟩, 
       ⟨(some 43), (.loadN 5 (.tmp 6)), (some (42, true))⟩, 
       ⟨(some 44), (.loadN 5 (.tmp 1)), (some (42, true))⟩, 
       ⟨(some 45), (.callF 12 [(.tmp 43), (.tmp 44)]), (some (42, true))⟩, 
       ⟨(some 46), (.pick (.tmp 42) (.tmp 45) (.const (.bool false))), none⟩, 
       ⟨(some 0), (.mv (.tmp 46)), none⟩])
      .ret))))))
theorem c10 {args : Array Value} {h : Heap} {R : Ending → Heap → Prop} (ha : args.size ≤ 47) (hh : aexec Try.prog ac10 (abody [(.slot 0)] R) ⟨initFr args.toList, []⟩ h) : HCalls Try.prog 10 args h R :=
  hcalls_of Try.func10 rfl rfl (by kernel_rfl) (by kernel_rfl) ha hh
/-- 11: credenza/credenzaref02.Same -/
def ac11 : ACode :=
 (.seq (.ops [
  ⟨(some 4), (.mv (.const (.bool false))), none⟩])
 (.seq (.ops [
   ⟨(some 5), (.mv (.tmp 0)), none⟩, 
   ⟨(some 6), (.strOfBytes (.tmp 5)), none⟩, 
   ⟨(some 7), (.mv (.tmp 1)), none⟩, 
   ⟨(some 8), (.strOfBytes (.tmp 7)), none⟩, 
   ⟨(some 9), (.bin .eql (.tmp 6) (.tmp 8)), none⟩, 
   ⟨(some 4), (.mv (.tmp 9)), none⟩])
  .ret))
theorem c11 {args : Array Value} {h : Heap} {R : Ending → Heap → Prop} (ha : args.size ≤ 10) (hh : aexec Try.prog ac11 (abody [(.slot 4)] R) ⟨initFr args.toList, []⟩ h) : HCalls Try.prog 11 args h R :=
  hcalls_of Try.func11 rfl rfl (by kernel_rfl) (by kernel_rfl) ha hh
/-- 12: credenza/credenzaref03.Same -/
def ac12 : ACode :=
 (.seq (.ops [
  ⟨(some 2), (.box 25 (.tmp 0)), none⟩, 
  ⟨(some 3), (.box 25 (.tmp 1)), none⟩, 
  ⟨(some 4), (.mv (.const (.bool false))), none⟩])
 (.seq (.seq (.ops [
    ⟨(some 7), (.fieldAddr 0 (.tmp 2)), none⟩, 
    ⟨(some 8), (.load1 (.tmp 7)), none⟩, 
    ⟨(some 9), (.fieldAddr 0 (.tmp 3)), none⟩, 
    ⟨(some 10), (.load1 (.tmp 9)), none⟩, 
    ⟨(some 11), (.bin .neq (.tmp 8) (.tmp 10)), none⟩, 
    ⟨(some 12), (.mv (.tmp 11)), none⟩, 
    ⟨(some 13), (.fieldAddr 1 (.tmp 2)), (some (12, false))⟩, 
    ⟨(some 14), (.load1 (.tmp 13)), (some (12, false))⟩, 
    ⟨(some 15), (.fieldAddr 1 (.tmp 3)), (some (12, false))⟩, 
    ⟨(some 16), (.load1 (.tmp 15)), (some (12, false))⟩, 
    ⟨(some 17), (.bin .neq (.tmp 14) (.tmp 16)), (some (12, false))⟩, 
    ⟨(some 18), (.pick (.tmp 12) (.const (.bool true)) (.tmp 17)), none⟩, 
    ⟨(some 19), (.mv (.tmp 18)), none⟩, 
    ⟨(some 20), (.fieldAddr 2 (.tmp 2)), (some (19, false))⟩, 
    ⟨(some 21), (.load1 (.tmp 20)), (some (19, false))⟩, 
    ⟨(some 22), (.fieldAddr 2 (.tmp 3)), (some (19, false))⟩, 
    ⟨(some 23), (.load1 (.tmp 22)), (some (19, false))⟩, 
    ⟨(some 24), (.bin .neq (.tmp 21) (.tmp 23)), (some (19, false))⟩, 
    ⟨(some 25), (.pick (.tmp 19) (.const (.bool true)) (.tmp 24)), none⟩, 
    ⟨(some 26), (.mv (.tmp 25)), none⟩, 
    ⟨(some 27), (.fieldAddr 3 (.tmp 2)), (some (26, false))⟩, 
    ⟨(some 28), (.load1 (.tmp 27)), (some (26, false))⟩, 
    ⟨(some 29), (.lenSl (.tmp 28)), (some (26, false))⟩, 
    ⟨(some 30), (.fieldAddr 3 (.tmp 3)), (some (26, false))⟩, 
    ⟨(some 31), (.load1 (.tmp 30)), (some (26, false))⟩, 
    ⟨(some 32), (.lenSl (.tmp 31)), (some (26, false))⟩, 
    ⟨(some 33), (.bin .neq (.tmp 29) (.tmp 32)), (some (26, false))⟩, 
    ⟨(some 34), (.pick (.tmp 26) (.const (.bool true)) (.tmp 33)), none⟩, 
    ⟨(some 35), (.mv (.tmp 34)), none⟩, 
    ⟨(some 36), (.fieldAddr 4 (.tmp 2)), (some (35, false))⟩, 
    ⟨(some 37), (.load1 (.tmp 36)), (some (35, false))⟩, 
    ⟨(some 38), (.lenSl (.tmp 37)), (some (35, false))⟩, 
    ⟨(some 39), (.fieldAddr 4 (.tmp 3)), (some (35, false))⟩, 
    ⟨(some 40), (.load1 (.tmp 39)), (some (35, false))⟩, 
    ⟨(some 41), (.lenSl (.tmp 40)), (some (35, false))⟩, 
    ⟨(some 42), (.bin .neq (.tmp 38) (.tmp 41)), (some (35, false))⟩, 
    ⟨(some 43), (.pick (.tmp 35) (.const (.bool true)) (.tmp 42)), none⟩])
   (.cond (.tmp 43)
    (.seq (.ops [
      ⟨(some 4), (.mv (.const (.bool false))), none⟩])
     .ret)
    .skip))
  (.seq (.seq (.ops [
     ⟨(some 44), (.fieldAddr 3 (.tmp 2)), none⟩, 
     ⟨(some 45), (.load1 (.tmp 44)), none⟩, 
     ⟨(some 46), (.lenSl (.tmp 45)), none⟩, 
     ⟨(some 47), (.mv (.const (.int .i64 0))), none⟩])
    (.block 0
     (.loop
      (.seq (.ops [
        ⟨(some 48), (.bin .lss (.tmp 47) (.tmp 46)), none⟩])
       (.seq (.cond (.tmp 48)
         .skip
         (.exit 0))
        (.seq (.block 1
          (.seq (.ops [
            ⟨(some 49), (.mv (.tmp 47)), none⟩, 
            ⟨(some 5), (.mv (.tmp 49)), none⟩])
           (.seq (.any [50, 51, 52, 53, 54, 55, 56, 57, 58, 59, 60] [
             ⟨(some 50), (.fieldAddr 3 (.tmp 2)), none⟩, 
             ⟨(some 51), (.load1 (.tmp 50)), none⟩, 
             ⟨(some 52), (.mv (.tmp 5)), none⟩, 
             ⟨(some 53), (.idxSl 1 (.tmp 51) (.tmp 52)), none⟩, 
             ⟨(some 54), (.load1 (.tmp 53)), none⟩, 
             ⟨(some 55), (.fieldAddr 3 (.tmp 3)), none⟩, 
             ⟨(some 56), (.load1 (.tmp 55)), none⟩, 
             ⟨(some 57), (.mv (.tmp 5)), none⟩, 
             ⟨(some 58), (.idxSl 1 (.tmp 56) (.tmp 57)), none⟩, 
             ⟨(some 59), (.load1 (.tmp 58)), none⟩, 
             ⟨(some 60), (.bin .neq (.tmp 54) (.tmp 59)), none⟩])
            (.cond (.tmp 60)
             (.seq (.ops [
               ⟨(some 4), (.mv (.const (.bool false))), none⟩])
              .ret)
             .skip))))
         (.ops [
          ⟨(some 61), (.bin .add (.tmp 47) (.const (.int .i64 1))), none⟩, 
          ⟨(some 47), (.mv (.tmp 61)), none⟩])))))))
   (.seq (.seq (.ops [
      ⟨(some 62), (.fieldAddr 4 (.tmp 2)), none⟩, 
      ⟨(some 63), (.load1 (.tmp 62)), none⟩, 
      ⟨(some 64), (.lenSl (.tmp 63)), none⟩, 
      ⟨(some 65), (.mv (.const (.int .i64 0))), none⟩])
     (.block 2
      (.loop
       (.seq (.ops [
         ⟨(some 66), (.bin .lss (.tmp 65) (.tmp 64)), none⟩])
        (.seq (.cond (.tmp 66)
          .skip
          (.exit 2))
         (.seq (.block 3
           (.seq (.ops [
             ⟨(some 67), (.mv (.tmp 65)), none⟩, 
             ⟨(some 6), (.mv (.tmp 67)), none⟩])
            (.seq (.any [68, 69, 70, 71, 72, 73, 74, 75, 76, 77, 78, 79] [
              ⟨(some 68), (.fieldAddr 4 (.tmp 2)), none⟩, 
              ⟨(some 69), (.load1 (.tmp 68)), none⟩, 
              ⟨(some 70), (.mv (.tmp 6)), none⟩, 
              ⟨(some 71), (.idxSl 5 (.tmp 69) (.tmp 70)), none⟩, 
              ⟨(some 72), (.loadN 5 (.tmp 71)), none⟩, 
              ⟨(some 73), (.fieldAddr 4 (.tmp 3)), none⟩, 
              ⟨(some 74), (.load1 (.tmp 73)), none⟩, 
              ⟨(some 75), (.mv (.tmp 6)), none⟩, 
              ⟨(some 76), (.idxSl 5 (.tmp 74) (.tmp 75)), none⟩, 
              ⟨(some 77), (.loadN 5 (.tmp 76)), none⟩, 
              ⟨(some 78), (.callF 12 [(.tmp 72), (.tmp 77)]), none⟩, 
              ⟨(some 79), (.un .not (.tmp 78)), none⟩])
             (.cond (.tmp 79)
              (.seq (.ops [
                ⟨(some 4), (.mv (.const (.bool false))), none⟩])
               .ret)
              .skip))))
          (.ops [
           ⟨(some 80), (.bin .add (.tmp 65) (.const (.int .i64 1))), none⟩, 
           ⟨(some 65), (.mv (.tmp 80)), none⟩])))))))
    (.seq (.ops [
      ⟨(some 4), (.mv (.const (.bool true))), none⟩])
     .ret)))))
theorem c12 {args : Array Value} {h : Heap} {R : Ending → Heap → Prop} (ha : args.size ≤ 81) (hh : aexec Try.prog ac12 (abody [(.slot 4)] R) ⟨initFr args.toList, []⟩ h) : HCalls Try.prog 12 args h R :=
  hcalls_of Try.func12 rfl rfl (by kernel_rfl) (by kernel_rfl) ha hh
/-- 13: credenza/codec.Read -/
def ac13 : ACode :=
 (.seq (.ops [
  ⟨(some 2), (.new 25 [(.int .i64 0), (.int .i64 0), (.string ⟨#[]⟩), (.slice none 0 0), (.slice none 0 0)]), none⟩, 
  ⟨(some 3), (.new 3 [(.int .i64 0)]), none⟩, 
  ⟨(some 4), (.new 28 [(.int .i64 0)]), none⟩])
 (.seq (.ops [
   ⟨(some 6), (.mv (.tmp 0)), none⟩, 
   ⟨(some 7), (.build [(.slice none 0 0), (.int .i64 0)] [(0, 1, (.tmp 6))]), none⟩, 
   ⟨(some 8), (.box 45 (.tmp 7)), none⟩, 
   ⟨(some 5), (.mv (.tmp 8)), none⟩])
  (.seq (.ops [
    ⟨(some 9), (.mkFunc (.func 21) [] [(.tmp 2), (.tmp 3), (.tmp 4)]), none⟩, 
    ⟨none, (.deferV (.tmp 9)), none⟩])
   (.seq (.ops [
     ⟨(some 10), (.mv (.tmp 5)), none⟩, 
     ⟨(some 11), (.callF 22 [(.tmp 10)]), none⟩, 
     ⟨none, (.storeN 5 (.tmp 2) (.tmp 11)), none⟩])
    (.seq (.seq (.any [12, 13, 14, 15, 16, 17, 18, 19, 20] [
       ⟨(some 12), (.loadN 5 (.tmp 2)), none⟩, 
       ⟨(some 13), (.mv (.tmp 0)), none⟩, 
       ⟨(some 14), (.lenSl (.tmp 13)), none⟩, 
       ⟨(some 15), (.mv (.tmp 5)), none⟩, 
       ⟨(some 16), (.nilCheck (.tmp 15)), none⟩, 
       ⟨(some 17), (.fieldAddr 0 (.tmp 16)), none⟩])
      (.alt
       (.any [12, 13, 14, 15, 16, 17, 18, 19, 20] [
        ⟨(some 18), (.load1 (.tmp 17)), none⟩, 
        ⟨(some 19), (.lenSl (.tmp 18)), none⟩, 
        ⟨(some 20), (.bin .sub (.tmp 14) (.tmp 19)), none⟩, 
        ⟨none, (.storeN 5 (.tmp 2) (.tmp 12)), none⟩, 
        ⟨none, (.store1 (.tmp 3) (.tmp 20)), none⟩, 
        ⟨none, (.store1 (.tmp 4) (.const (.int .i64 0))), none⟩])
       (.any [12, 13, 14, 15, 16, 17, 18, 19, 20] [
        ⟨none, (.storeN 5 (.tmp 2) (.tmp 12)), none⟩, 
        ⟨(some 18), (.load1 (.tmp 17)), none⟩, 
        ⟨(some 19), (.lenSl (.tmp 18)), none⟩, 
        ⟨(some 20), (.bin .sub (.tmp 14) (.tmp 19)), none⟩, 
        ⟨none, (.store1 (.tmp 3) (.tmp 20)), none⟩, 
        ⟨none, (.store1 (.tmp 4) (.const (.int .i64 0))), none⟩])))
     .ret)))))
theorem c13 {args : Array Value} {h : Heap} {R : Ending → Heap → Prop} (ha : args.size ≤ 21) (hh : aexec Try.prog ac13 (abodyD Try.prog [(.cellN 2 5), (.cell1 3), (.cell1 4)] R) ⟨initFr args.toList, []⟩ h) : HCalls Try.prog 13 args h R :=
  hcalls_of_d Try.func13 rfl rfl (by kernel_rfl) (by kernel_rfl) ha hh
/-- 14: credenza/credenzaref04.Read -/
def ac14 : ACode :=
 (.seq (.ops [
  ⟨(some 2), (.new 25 [(.int .i64 0), (.int .i64 0), (.string ⟨#[]⟩), (.slice none 0 0), (.slice none 0 0)]), none⟩, 
  ⟨(some 3), (.mv (.const (.int .i64 0))), none⟩, 
  ⟨(some 4), (.mv (.const (.int .i64 0))), none⟩])
 (.seq (.ops [
   ⟨(some 5), (.mv (.tmp 0)), none⟩, 
   ⟨(some 6), (.callF 23 [(.tmp 5), (.const (.int .i64 0))]), none⟩, 
   ⟨(some 7), (.extract (.tmp 6) 0), none⟩, 
   ⟨(some 8), (.extract (.tmp 6) 1), none⟩, 
   ⟨(some 9), (.extract (.tmp 6) 2), none⟩, 
   ⟨none, (.storeN 5 (.tmp 2) (.tmp 7)), none⟩, 
   ⟨(some 3), (.mv (.tmp 8)), none⟩, 
   ⟨(some 4), (.mv (.tmp 9)), none⟩])
  .ret))
theorem c14 {args : Array Value} {h : Heap} {R : Ending → Heap → Prop} (ha : args.size ≤ 10) (hh : aexec Try.prog ac14 (abody [(.cellN 2 5), (.slot 3), (.slot 4)] R) ⟨initFr args.toList, []⟩ h) : HCalls Try.prog 14 args h R :=
  hcalls_of Try.func14 rfl rfl (by kernel_rfl) (by kernel_rfl) ha hh
/-- 15: credenza/codec.Decode -/
def ac15 : ACode :=
 (.seq (.ops [
  ⟨(some 2), (.new 25 [(.int .i64 0), (.int .i64 0), (.string ⟨#[]⟩), (.slice none 0 0), (.slice none 0 0)]), none⟩, 
  ⟨(some 3), (.mv (.const (.int .i64 0))), none⟩])
 (.seq (.ops [
   ⟨(some 8), (.mv (.tmp 0)), none⟩, 
   ⟨(some 9), (.callF 13 [(.tmp 8)]), none⟩, 
   ⟨(some 7), (.mv (.tmp 9)), none⟩, 
   ⟨(some 10), (.extract (.tmp 7) 0), none⟩, 
   ⟨(some 11), (.extract (.tmp 7) 1), none⟩, 
   ⟨(some 12), (.extract (.tmp 7) 2), none⟩, 
   ⟨(some 4), (.new 25 [(.int .i64 0), (.int .i64 0), (.string ⟨#[]⟩), (.slice none 0 0), (.slice none 0 0)]), none⟩, 
   ⟨none, (.storeN 5 (.tmp 4) (.tmp 10)), none⟩, 
   ⟨(some 5), (.mv (.tmp 11)), none⟩, 
   ⟨(some 6), (.mv (.tmp 12)), none⟩])
  (.seq (.seq (.ops [
     ⟨(some 13), (.mv (.tmp 6)), none⟩, 
     ⟨(some 14), (.bin .eql (.tmp 13) (.const (.int .i64 0))), none⟩, 
     ⟨(some 15), (.mv (.tmp 14)), none⟩, 
     ⟨(some 16), (.mv (.tmp 5)), (some (15, true))⟩, 
     ⟨(some 17), (.mv (.tmp 0)), (some (15, true))⟩, 
     ⟨(some 18), (.lenSl (.tmp 17)), (some (15, true))⟩, 
     ⟨(some 19), (.bin .lss (.tmp 16) (.tmp 18)), (some (15, true))⟩, 
     ⟨(some 20), (.pick (.tmp 15) (.tmp 19) (.const (.bool false))), none⟩])
    (.cond (.tmp 20)
     (.seq (.ops [
       ⟨(some 21), (.build [(.int .i64 0), (.int .i64 0), (.string ⟨#[]⟩), (.slice none 0 0), (.slice none 0 0)] []), none⟩, 
       ⟨none, (.storeN 5 (.tmp 2) (.tmp 21)), none⟩, 
       ⟨(some 3), (.mv (.const (.int .i64 22))), none⟩])
      .ret)
     .skip))
   (.seq (.ops [
     ⟨(some 22), (.loadN 5 (.tmp 4)), none⟩, 
     ⟨(some 23), (.mv (.tmp 6)), none⟩, 
     ⟨none, (.storeN 5 (.tmp 2) (.tmp 22)), none⟩, 
     ⟨(some 3), (.mv (.tmp 23)), none⟩])
    .ret))))
theorem c15 {args : Array Value} {h : Heap} {R : Ending → Heap → Prop} (ha : args.size ≤ 24) (hh : aexec Try.prog ac15 (abody [(.cellN 2 5), (.slot 3)] R) ⟨initFr args.toList, []⟩ h) : HCalls Try.prog 15 args h R :=
  hcalls_of Try.func15 rfl rfl (by kernel_rfl) (by kernel_rfl) ha hh
/-- 16: credenza/credenzaref04.Decode -/
def ac16 : ACode :=
 (.seq (.ops [
  ⟨(some 2), (.new 25 [(.int .i64 0), (.int .i64 0), (.string ⟨#[]⟩), (.slice none 0 0), (.slice none 0 0)]), none⟩, 
  ⟨(some 3), (.mv (.const (.int .i64 0))), none⟩])
 (.seq (.ops [
   ⟨(some 8), (.mv (.tmp 0)), none⟩, 
   ⟨(some 9), (.callF 14 [(.tmp 8)]), none⟩, 
   ⟨(some 7), (.mv (.tmp 9)), none⟩, 
   ⟨(some 10), (.extract (.tmp 7) 0), none⟩, 
   ⟨(some 11), (.extract (.tmp 7) 1), none⟩, 
   ⟨(some 12), (.extract (.tmp 7) 2), none⟩, 
   ⟨(some 4), (.new 25 [(.int .i64 0), (.int .i64 0), (.string ⟨#[]⟩), (.slice none 0 0), (.slice none 0 0)]), none⟩, 
   ⟨none, (.storeN 5 (.tmp 4) (.tmp 10)), none⟩, 
   ⟨(some 5), (.mv (.tmp 11)), none⟩, 
   ⟨(some 6), (.mv (.tmp 12)), none⟩])
  (.seq (.seq (.ops [
     ⟨(some 13), (.mv (.tmp 6)), none⟩, 
     ⟨(some 14), (.bin .neq (.tmp 13) (.const (.int .i64 0))), none⟩])
    (.cond (.tmp 14)
     (.seq (.ops [
       ⟨(some 15), (.build [(.int .i64 0), (.int .i64 0), (.string ⟨#[]⟩), (.slice none 0 0), (.slice none 0 0)] []), none⟩, 
       ⟨(some 16), (.mv (.tmp 6)), none⟩, 
       ⟨none, (.storeN 5 (.tmp 2) (.tmp 15)), none⟩, 
       ⟨(some 3), (.mv (.tmp 16)), none⟩])
      .ret)
     .skip))
   (.seq (.seq (.ops [
      ⟨(some 17), (.mv (.tmp 5)), none⟩, 
      ⟨(some 18), (.mv (.tmp 0)), none⟩, 
      ⟨(some 19), (.lenSl (.tmp 18)), none⟩, 
      ⟨(some 20), (.bin .lss (.tmp 17) (.tmp 19)), none⟩])
     (.cond (.tmp 20)
      (.seq (.ops [
        ⟨(some 21), (.build [(.int .i64 0), (.int .i64 0), (.string ⟨#[]⟩), (.slice none 0 0), (.slice none 0 0)] []), none⟩, 
        ⟨none, (.storeN 5 (.tmp 2) (.tmp 21)), none⟩, 
        ⟨(some 3), (.mv (.const (.int .i64 22))), none⟩])
       .ret)
      .skip))
    (.seq (.ops [
      ⟨(some 22), (.loadN 5 (.tmp 4)), none⟩, 
      ⟨none, (.storeN 5 (.tmp 2) (.tmp 22)), none⟩, 
      ⟨(some 3), (.mv (.const (.int .i64 0))), none⟩])
     .ret)))))
theorem c16 {args : Array Value} {h : Heap} {R : Ending → Heap → Prop} (ha : args.size ≤ 23) (hh : aexec Try.prog ac16 (abody [(.cellN 2 5), (.slot 3)] R) ⟨initFr args.toList, []⟩ h) : HCalls Try.prog 16 args h R :=
  hcalls_of Try.func16 rfl rfl (by kernel_rfl) (by kernel_rfl) ha hh
/-- 17: credenza/data.Check -/
def ac17 : ACode :=
 (.seq (.ops [
  ⟨(some 1), (.box 25 (.tmp 0)), none⟩, 
  ⟨(some 2), (.mv (.const (.int .i64 0))), none⟩])
 (.seq (.seq (.ops [
    ⟨(some 4), (.loadN 5 (.tmp 1)), none⟩, 
    ⟨(some 5), (.callF 24 [(.tmp 4)]), none⟩, 
    ⟨(some 3), (.mv (.tmp 5)), none⟩])
   (.block 0
    (.seq (.ops [
      ⟨(some 7), (.mv (.tmp 3)), none⟩, 
      ⟨(some 8), (.bin .eql (.tmp 7) (.const (.int .i64 0))), none⟩, 
      ⟨(some 6), (.mv (.tmp 8)), none⟩])
     (.cond (.tmp 6)
      (.seq (.ops [
        ⟨(some 2), (.mv (.const (.int .i64 30))), none⟩])
       .ret)
      (.seq (.ops [
        ⟨(some 10), (.mv (.tmp 3)), none⟩, 
        ⟨(some 11), (.bin .gtr (.tmp 10) (.const (.int .i64 20))), none⟩, 
        ⟨(some 9), (.mv (.tmp 11)), none⟩])
       (.cond (.tmp 9)
        (.seq (.ops [
          ⟨(some 2), (.mv (.const (.int .i64 31))), none⟩])
         .ret)
        .skip))))))
  (.seq (.ops [
    ⟨(some 2), (.mv (.const (.int .i64 0))), none⟩])
   .ret)))
theorem c17 {args : Array Value} {h : Heap} {R : Ending → Heap → Prop} (ha : args.size ≤ 12) (hh : aexec Try.prog ac17 (abody [(.slot 2)] R) ⟨initFr args.toList, []⟩ h) : HCalls Try.prog 17 args h R :=
  hcalls_of Try.func17 rfl rfl (by kernel_rfl) (by kernel_rfl) ha hh
/-- 18: credenza/codec.lay -/
def ac18 : ACode :=
 (.seq (.ops [
  ⟨(some 3), (.box 25 (.tmp 1)), none⟩, 
  ⟨(some 4), (.mv (.const (.slice none 0 0))), none⟩])
 (.seq (.seq (.ops [
    ⟨(some 8), (.fieldAddr 0 (.tmp 3)), none⟩, 
    ⟨(some 9), (.load1 (.tmp 8)), none⟩])
   (.block 0
    (.seq (.seq (.ops [
       ⟨(some 11), (.bin .eql (.tmp 9) (.const (.int .i64 0))), none⟩, 
       ⟨(some 10), (.mv (.tmp 11)), none⟩])
      (.cond (.tmp 10)
       .skip
       (.ops [
        ⟨(some 12), (.bin .eql (.tmp 9) (.const (.int .i64 1))), none⟩, 
        ⟨(some 10), (.mv (.tmp 12)), none⟩])))
     (.cond (.tmp 10)
      (.seq (.ops [
        ⟨(some 13), (.mv (.tmp 0)), none⟩, 
        ⟨(some 14), (.fieldAddr 0 (.tmp 3)), none⟩, 
        ⟨(some 15), (.load1 (.tmp 14)), none⟩, 
        ⟨(some 16), (.convInt .u8 (.tmp 15)), none⟩, 
        ⟨(some 17), (.buildSlice 5 1 [(.int .u8 0)] [(0, 1, (.tmp 16))]), none⟩, 
        ⟨(some 18), (.append 5 1 1 [(.int .u8 0)] (.tmp 13) (.tmp 17)), none⟩, 
        ⟨(some 4), (.mv (.tmp 18)), none⟩])
       .ret)
      (.seq (.ops [
        ⟨(some 20), (.bin .eql (.tmp 9) (.const (.int .i64 2))), none⟩, 
        ⟨(some 19), (.mv (.tmp 20)), none⟩])
       (.cond (.tmp 19)
        (.seq (.ops [
          ⟨(some 21), (.mv (.tmp 0)), none⟩, 
          ⟨(some 22), (.fieldAddr 1 (.tmp 3)), none⟩, 
          ⟨(some 23), (.load1 (.tmp 22)), none⟩, 
          ⟨(some 24), (.convInt .u8 (.tmp 23)), none⟩, 
          ⟨(some 25), (.bin .add (.const (.int .u8 2)) (.tmp 24)), none⟩, 
          ⟨(some 26), (.buildSlice 5 1 [(.int .u8 0)] [(0, 1, (.tmp 25))]), none⟩, 
          ⟨(some 27), (.append 5 1 1 [(.int .u8 0)] (.tmp 21) (.tmp 26)), none⟩, 
          ⟨(some 4), (.mv (.tmp 27)), none⟩])
         .ret)
        (.seq (.ops [
          ⟨(some 29), (.bin .eql (.tmp 9) (.const (.int .i64 3))), none⟩, 
          ⟨(some 28), (.mv (.tmp 29)), none⟩])
         (.cond (.tmp 28)
          (.seq (.seq (.ops [
             ⟨(some 30), (.fieldAddr 1 (.tmp 3)), none⟩, 
             ⟨(some 31), (.load1 (.tmp 30)), none⟩, 
             ⟨(some 32), (.bin .lss (.tmp 31) (.const (.int .i64 0))), none⟩])
            (.cond (.tmp 32)
             (.seq (.seq (.any [33, 34, 35, 36, 37, 38, 39, 40, 41, 4] [
                ⟨(some 33), (.mv (.tmp 0)), none⟩, 
                ⟨(some 36), (.fieldAddr 1 (.tmp 3)), none⟩])
               (.alt
                (.seq (.any [33, 34, 35, 36, 37, 38, 39, 40, 41, 4] [
                  ⟨(some 34), (.buildSlice 5 1 [(.int .u8 0)] [(0, 1, (.const (.int .u8 5)))]), none⟩])
                 (.alt
                  (.any [33, 34, 35, 36, 37, 38, 39, 40, 41, 4] [
                   ⟨(some 35), (.append 5 1 1 [(.int .u8 0)] (.tmp 33) (.tmp 34)), none⟩, 
                   ⟨(some 37), (.load1 (.tmp 36)), none⟩, 
                   ⟨(some 38), (.un .xor (.tmp 37)), none⟩, 
                   ⟨(some 39), (.convInt .u64 (.tmp 38)), none⟩, 
                   ⟨(some 40), (.callF 25 [(.tmp 39)]), none⟩, 
                   ⟨(some 41), (.append 5 1 1 [(.int .u8 0)] (.tmp 35) (.tmp 40)), none⟩, 
                   ⟨(some 4), (.mv (.tmp 41)), none⟩])
                  (.any [33, 34, 35, 36, 37, 38, 39, 40, 41, 4] [
                   ⟨(some 37), (.load1 (.tmp 36)), none⟩, 
                   ⟨(some 38), (.un .xor (.tmp 37)), none⟩, 
                   ⟨(some 39), (.convInt .u64 (.tmp 38)), none⟩, 
                   ⟨(some 35), (.append 5 1 1 [(.int .u8 0)] (.tmp 33) (.tmp 34)), none⟩, 
                   ⟨(some 40), (.callF 25 [(.tmp 39)]), none⟩, 
                   ⟨(some 41), (.append 5 1 1 [(.int .u8 0)] (.tmp 35) (.tmp 40)), none⟩, 
                   ⟨(some 4), (.mv (.tmp 41)), none⟩])))
                (.any [33, 34, 35, 36, 37, 38, 39, 40, 41, 4] [
                 ⟨(some 37), (.load1 (.tmp 36)), none⟩, 
                 ⟨(some 38), (.un .xor (.tmp 37)), none⟩, 
                 ⟨(some 39), (.convInt .u64 (.tmp 38)), none⟩, 
                 ⟨(some 34), (.buildSlice 5 1 [(.int .u8 0)] [(0, 1, (.const (.int .u8 5)))]), none⟩, 
                 ⟨(some 35), (.append 5 1 1 [(.int .u8 0)] (.tmp 33) (.tmp 34)), none⟩, 
                 ⟨(some 40), (.callF 25 [(.tmp 39)]), none⟩, 
                 ⟨(some 41), (.append 5 1 1 [(.int .u8 0)] (.tmp 35) (.tmp 40)), none⟩, 
                 ⟨(some 4), (.mv (.tmp 41)), none⟩])))
              .ret)
             .skip))
           (.seq (.seq (.any [42, 43, 44, 45, 46, 47, 48, 49, 4] [
              ⟨(some 42), (.mv (.tmp 0)), none⟩, 
              ⟨(some 45), (.fieldAddr 1 (.tmp 3)), none⟩])
             (.alt
              (.seq (.any [42, 43, 44, 45, 46, 47, 48, 49, 4] [
                ⟨(some 43), (.buildSlice 5 1 [(.int .u8 0)] [(0, 1, (.const (.int .u8 4)))]), none⟩])
               (.alt
                (.any [42, 43, 44, 45, 46, 47, 48, 49, 4] [
                 ⟨(some 44), (.append 5 1 1 [(.int .u8 0)] (.tmp 42) (.tmp 43)), none⟩, 
                 ⟨(some 46), (.load1 (.tmp 45)), none⟩, 
                 ⟨(some 47), (.convInt .u64 (.tmp 46)), none⟩, 
                 ⟨(some 48), (.callF 25 [(.tmp 47)]), none⟩, 
                 ⟨(some 49), (.append 5 1 1 [(.int .u8 0)] (.tmp 44) (.tmp 48)), none⟩, 
                 ⟨(some 4), (.mv (.tmp 49)), none⟩])
                (.any [42, 43, 44, 45, 46, 47, 48, 49, 4] [
                 ⟨(some 46), (.load1 (.tmp 45)), none⟩, 
                 ⟨(some 47), (.convInt .u64 (.tmp 46)), none⟩, 
                 ⟨(some 44), (.append 5 1 1 [(.int .u8 0)] (.tmp 42) (.tmp 43)), none⟩, 
                 ⟨(some 48), (.callF 25 [(.tmp 47)]), none⟩, 
                 ⟨(some 49), (.append 5 1 1 [(.int .u8 0)] (.tmp 44) (.tmp 48)), none⟩, 
                 ⟨(some 4), (.mv (.tmp 49)), none⟩])))
              (.any [42, 43, 44, 45, 46, 47, 48, 49, 4] [
               ⟨(some 46), (.load1 (.tmp 45)), none⟩, 
               ⟨(some 47), (.convInt .u64 (.tmp 46)), none⟩, 
               ⟨(some 43), (.buildSlice 5 1 [(.int .u8 0)] [(0, 1, (.const (.int .u8 4)))]), none⟩, 
               ⟨(some 44), (.append 5 1 1 [(.int .u8 0)] (.tmp 42) (.tmp 43)), none⟩, 
               ⟨(some 48), (.callF 25 [(.tmp 47)]), none⟩, 
               ⟨(some 49), (.append 5 1 1 [(.int .u8 0)] (.tmp 44) (.tmp 48)), none⟩, 
               ⟨(some 4), (.mv (.tmp 49)), none⟩])))
            .ret))
          (.seq (.ops [
            ⟨(some 51), (.bin .eql (.tmp 9) (.const (.int .i64 4))), none⟩, 
            ⟨(some 50), (.mv (.tmp 51)), none⟩])
           (.cond (.tmp 50)
            (.seq (.seq (.any [52, 53, 54, 55, 56, 57, 58, 4] [
               ⟨(some 52), (.mv (.tmp 0)), none⟩, 
               ⟨(some 55), (.fieldAddr 2 (.tmp 3)), none⟩])
              (.alt
               (.seq (.any [52, 53, 54, 55, 56, 57, 58, 4] [
                 ⟨(some 53), (.buildSlice 5 1 [(.int .u8 0)] [(0, 1, (.const (.int .u8 6)))]), none⟩])
                (.alt
                 (.any [52, 53, 54, 55, 56, 57, 58, 4] [
                  ⟨(some 54), (.append 5 1 1 [(.int .u8 0)] (.tmp 52) (.tmp 53)), none⟩, 
                  ⟨(some 56), (.load1 (.tmp 55)), none⟩, 
                  ⟨(some 57), (.callF 26 [(.tmp 56)]), none⟩, 
                  ⟨(some 58), (.append 5 1 1 [(.int .u8 0)] (.tmp 54) (.tmp 57)), none⟩, 
                  ⟨(some 4), (.mv (.tmp 58)), none⟩])
                 (.any [52, 53, 54, 55, 56, 57, 58, 4] [
                  ⟨(some 56), (.load1 (.tmp 55)), none⟩, 
                  ⟨(some 54), (.append 5 1 1 [(.int .u8 0)] (.tmp 52) (.tmp 53)), none⟩, 
                  ⟨(some 57), (.callF 26 [(.tmp 56)]), none⟩, 
                  ⟨(some 58), (.append 5 1 1 [(.int .u8 0)] (.tmp 54) (.tmp 57)), none⟩, 
                  ⟨(some 4), (.mv (.tmp 58)), none⟩])))
               (.any [52, 53, 54, 55, 56, 57, 58, 4] [
                ⟨(some 56), (.load1 (.tmp 55)), none⟩, 
                ⟨(some 53), (.buildSlice 5 1 [(.int .u8 0)] [(0, 1, (.const (.int .u8 6)))]), none⟩, 
                ⟨(some 54), (.append 5 1 1 [(.int .u8 0)] (.tmp 52) (.tmp 53)), none⟩, 
                ⟨(some 57), (.callF 26 [(.tmp 56)]), none⟩, 
                ⟨(some 58), (.append 5 1 1 [(.int .u8 0)] (.tmp 54) (.tmp 57)), none⟩, 
                ⟨(some 4), (.mv (.tmp 58)), none⟩])))
             .ret)
            .skip))))))))))
  (.seq (.ops [
    ⟨(some 5), (.mv (.const (.int .u8 7))), none⟩])
   (.seq (.seq (.ops [
      ⟨(some 59), (.fieldAddr 0 (.tmp 3)), none⟩, 
      ⟨(some 60), (.load1 (.tmp 59)), none⟩, 
      ⟨(some 61), (.bin .eql (.tmp 60) (.const (.int .i64 6))), none⟩])
     (.cond (.tmp 61)
      (.ops [
       ⟨(some 5), (.mv (.const (.int .u8 8))), none⟩])
      .skip))
    (.seq (.seq (.any [62, 63, 64, 65, 66, 67, 68, 69, 70, 71, 0] [
       ⟨(some 62), (.mv (.tmp 0)), none⟩, 
       ⟨(some 63), (.mv (.tmp 5)), none⟩, 
       ⟨(some 66), (.fieldAddr 4 (.tmp 3)), none⟩])
      (.alt
       (.seq (.any [62, 63, 64, 65, 66, 67, 68, 69, 70, 71, 0] [
         ⟨(some 64), (.buildSlice 5 1 [(.int .u8 0)] [(0, 1, (.tmp 63))]), none⟩])
        (.alt
         (.any [62, 63, 64, 65, 66, 67, 68, 69, 70, 71, 0] [
          ⟨(some 65), (.append 5 1 1 [(.int .u8 0)] (.tmp 62) (.tmp 64)), none⟩, 
          ⟨(some 67), (.load1 (.tmp 66)), none⟩, 
          ⟨(some 68), (.lenSl (.tmp 67)), none⟩, 
          ⟨(some 69), (.convInt .u64 (.tmp 68)), none⟩, 
          ⟨(some 70), (.callF 25 [(.tmp 69)]), none⟩, 
          ⟨(some 71), (.append 5 1 1 [(.int .u8 0)] (.tmp 65) (.tmp 70)), none⟩, 
          ⟨(some 0), (.mv (.tmp 71)), none⟩])
         (.any [62, 63, 64, 65, 66, 67, 68, 69, 70, 71, 0] [
          ⟨(some 67), (.load1 (.tmp 66)), none⟩, 
          ⟨(some 68), (.lenSl (.tmp 67)), none⟩, 
          ⟨(some 69), (.convInt .u64 (.tmp 68)), none⟩, 
          ⟨(some 65), (.append 5 1 1 [(.int .u8 0)] (.tmp 62) (.tmp 64)), none⟩, 
          ⟨(some 70), (.callF 25 [(.tmp 69)]), none⟩, 
          ⟨(some 71), (.append 5 1 1 [(.int .u8 0)] (.tmp 65) (.tmp 70)), none⟩, 
          ⟨(some 0), (.mv (.tmp 71)), none⟩])))
       (.any [62, 63, 64, 65, 66, 67, 68, 69, 70, 71, 0] [
        ⟨(some 67), (.load1 (.tmp 66)), none⟩, 
        ⟨(some 68), (.lenSl (.tmp 67)), none⟩, 
        ⟨(some 69), (.convInt .u64 (.tmp 68)), none⟩, 
        ⟨(some 64), (.buildSlice 5 1 [(.int .u8 0)] [(0, 1, (.tmp 63))]), none⟩, 
        ⟨(some 65), (.append 5 1 1 [(.int .u8 0)] (.tmp 62) (.tmp 64)), none⟩, 
        ⟨(some 70), (.callF 25 [(.tmp 69)]), none⟩, 
        ⟨(some 71), (.append 5 1 1 [(.int .u8 0)] (.tmp 65) (.tmp 70)), none⟩, 
        ⟨(some 0), (.mv (.tmp 71)), none⟩])))
     (.seq (.seq (.ops [
        ⟨(some 72), (.fieldAddr 4 (.tmp 3)), none⟩, 
        ⟨(some 73), (.load1 (.tmp 72)), none⟩, 
        ⟨(some 74), (.lenSl (.tmp 73)), none⟩, 
        ⟨(some 75), (.mv (.const (.int .i64 0))), none⟩])
       (.block 1
        (.loop
         (.seq (.ops [
           ⟨(some 76), (.bin .lss (.tmp 75) (.tmp 74)), none⟩])
          (.seq (.cond (.tmp 76)
            .skip
            (.exit 1))
           (.seq (.block 2
             (.seq (.ops [
               ⟨(some 77), (.mv (.tmp 75)), none⟩, 
               ⟨(some 78), (.idxSl 5 (.tmp 73) (.tmp 75)), none⟩, 
               ⟨(some 79), (.loadN 5 (.tmp 78)), none⟩, 
               ⟨(some 7), (.new 25 [(.int .i64 0), (.int .i64 0), (.string ⟨#[]⟩), (.slice none 0 0), (.slice none 0 0)]), none⟩, 
               ⟨(some 6), (.mv (.tmp 77)), none⟩, 
               ⟨none, (.storeN 5 (.tmp 7) (.tmp 79)), none⟩])
              (.seq (.seq (.ops [
                 ⟨(some 80), (.mv (.tmp 5)), none⟩, 
                 ⟨(some 81), (.bin .eql (.tmp 80) (.const (.int .u8 8))), none⟩])
                (.cond (.tmp 81)
                 (.ops [
                  ⟨(some 82), (.mv (.tmp 0)), none⟩, 
                  ⟨(some 83), (.fieldAddr 3 (.tmp 3)), none⟩, 
                  ⟨(some 84), (.load1 (.tmp 83)), none⟩, 
                  ⟨(some 85), (.mv (.tmp 6)), none⟩, 
                  ⟨(some 86), (.idxSl 1 (.tmp 84) (.tmp 85)), none⟩, 
                  ⟨(some 87), (.load1 (.tmp 86)), none⟩, 
                  ⟨(some 88), (.callF 26 [(.tmp 87)]), none⟩, 
                  ⟨(some 89), (.append 5 1 1 [(.int .u8 0)] (.tmp 82) (.tmp 88)), none⟩, 
                  ⟨(some 0), (.mv (.tmp 89)), none⟩])
                 .skip))
               (.ops [
                ⟨(some 90), (.mv (.tmp 0)), none⟩, 
                ⟨(some 91), (.loadN 5 (.tmp 7)), none⟩, 
                ⟨(some 92), (.callF 18 [(.tmp 90), (.tmp 91)]), none⟩, 
                ⟨(some 0), (.mv (.tmp 92)), none⟩]))))
            (.ops [
             ⟨(some 93), (.bin .add (.tmp 75) (.const (.int .i64 1))), none⟩, 
             ⟨(some 75), (.mv (.tmp 93)), none⟩])))))))
      (.seq (.ops [
        ⟨(some 94), (.mv (.tmp 0)), none⟩, 
        ⟨(some 4), (.mv (.tmp 94)), none⟩])
       .ret)))))))
theorem c18 {args : Array Value} {h : Heap} {R : Ending → Heap → Prop} (ha : args.size ≤ 95) (hh : aexec Try.prog ac18 (abody [(.slot 4)] R) ⟨initFr args.toList, []⟩ h) : HCalls Try.prog 18 args h R :=
  hcalls_of Try.func18 rfl rfl (by kernel_rfl) (by kernel_rfl) ha hh
/-- 19: credenza/credenzaref03.Check -/
def ac19 : ACode :=
 (.seq (.ops [
  ⟨(some 1), (.box 25 (.tmp 0)), none⟩, 
  ⟨(some 2), (.mv (.const (.int .i64 0))), none⟩])
 (.seq (.seq (.ops [
    ⟨(some 3), (.loadN 5 (.tmp 1)), none⟩, 
    ⟨(some 4), (.callF 27 [(.tmp 3)]), none⟩, 
    ⟨(some 5), (.un .not (.tmp 4)), none⟩])
   (.cond (.tmp 5)
    (.seq (.ops [
      ⟨(some 2), (.mv (.const (.int .i64 30))), none⟩])
     .ret)
    .skip))
  (.seq (.seq (.ops [
     ⟨(some 6), (.loadN 5 (.tmp 1)), none⟩, 
     ⟨(some 7), (.callF 28 [(.tmp 6)]), none⟩, 
     ⟨(some 8), (.bin .gtr (.tmp 7) (.const (.int .i64 20))), none⟩])
    (.cond (.tmp 8)
     (.seq (.ops [
       ⟨(some 2), (.mv (.const (.int .i64 31))), none⟩])
      .ret)
     .skip))
   (.seq (.ops [
     ⟨(some 2), (.mv (.const (.int .i64 0))), none⟩])
    .ret))))
theorem c19 {args : Array Value} {h : Heap} {R : Ending → Heap → Prop} (ha : args.size ≤ 9) (hh : aexec Try.prog ac19 (abody [(.slot 2)] R) ⟨initFr args.toList, []⟩ h) : HCalls Try.prog 19 args h R :=
  hcalls_of Try.func19 rfl rfl (by kernel_rfl) (by kernel_rfl) ha hh
/-- 20: credenza/credenzaref04.write -/
def ac20 : ACode :=
 (.seq (.ops [
  ⟨(some 1), (.box 25 (.tmp 0)), none⟩, 
  ⟨(some 2), (.mv (.const (.slice none 0 0))), none⟩])
 (.seq (.seq (.ops [
    ⟨(some 6), (.fieldAddr 0 (.tmp 1)), none⟩, 
    ⟨(some 7), (.load1 (.tmp 6)), none⟩])
   (.block 0
    (.seq (.ops [
      ⟨(some 9), (.bin .eql (.tmp 7) (.const (.int .i64 0))), none⟩, 
      ⟨(some 8), (.mv (.tmp 9)), none⟩])
     (.cond (.tmp 8)
      (.seq (.ops [
        ⟨(some 10), (.buildSlice 5 1 [(.int .u8 0)] [(0, 1, (.const (.int .u8 0)))]), none⟩, 
        ⟨(some 2), (.mv (.tmp 10)), none⟩])
       .ret)
      (.seq (.ops [
        ⟨(some 12), (.bin .eql (.tmp 7) (.const (.int .i64 1))), none⟩, 
        ⟨(some 11), (.mv (.tmp 12)), none⟩])
       (.cond (.tmp 11)
        (.seq (.ops [
          ⟨(some 13), (.buildSlice 5 1 [(.int .u8 0)] [(0, 1, (.const (.int .u8 1)))]), none⟩, 
          ⟨(some 2), (.mv (.tmp 13)), none⟩])
         .ret)
        (.seq (.ops [
          ⟨(some 15), (.bin .eql (.tmp 7) (.const (.int .i64 2))), none⟩, 
          ⟨(some 14), (.mv (.tmp 15)), none⟩])
         (.cond (.tmp 14)
          (.seq (.ops [
            ⟨(some 16), (.fieldAddr 1 (.tmp 1)), none⟩, 
            ⟨(some 17), (.load1 (.tmp 16)), none⟩, 
            ⟨(some 18), (.bin .add (.const (.int .i64 2)) (.tmp 17)), none⟩, 
            ⟨(some 19), (.convInt .u8 (.tmp 18)), none⟩, 
            ⟨(some 20), (.buildSlice 5 1 [(.int .u8 0)] [(0, 1, (.tmp 19))]), none⟩, 
            ⟨(some 2), (.mv (.tmp 20)), none⟩])
           .ret)
          (.seq (.ops [
            ⟨(some 22), (.bin .eql (.tmp 7) (.const (.int .i64 3))), none⟩, 
            ⟨(some 21), (.mv (.tmp 22)), none⟩])
           (.cond (.tmp 21)
            (.seq (.seq (.ops [
               ⟨(some 23), (.fieldAddr 1 (.tmp 1)), none⟩, 
               ⟨(some 24), (.load1 (.tmp 23)), none⟩, 
               ⟨(some 25), (.bin .lss (.tmp 24) (.const (.int .i64 0))), none⟩])
              (.cond (.tmp 25)
               (.seq (.ops [
                 ⟨(some 26), (.buildSlice 5 1 [(.int .u8 0)] [(0, 1, (.const (.int .u8 5)))]), none⟩, 
                 ⟨(some 27), (.fieldAddr 1 (.tmp 1)), none⟩, 
                 ⟨(some 28), (.load1 (.tmp 27)), none⟩, 
                 ⟨(some 29), (.bin .sub (.const (.int .i64 (-1))) (.tmp 28)), none⟩, 
                 ⟨(some 30), (.convInt .u64 (.tmp 29)), none⟩, 
                 ⟨(some 31), (.callF 29 [(.tmp 30)]), none⟩, 
                 ⟨(some 32), (.append 5 1 1 [(.int .u8 0)] (.tmp 26) (.tmp 31)), none⟩, 
                 ⟨(some 2), (.mv (.tmp 32)), none⟩])
                .ret)
               .skip))
             (.seq (.ops [
               ⟨(some 33), (.buildSlice 5 1 [(.int .u8 0)] [(0, 1, (.const (.int .u8 4)))]), none⟩, 
               ⟨(some 34), (.fieldAddr 1 (.tmp 1)), none⟩, 
               ⟨(some 35), (.load1 (.tmp 34)), none⟩, 
               ⟨(some 36), (.convInt .u64 (.tmp 35)), none⟩, 
               ⟨(some 37), (.callF 29 [(.tmp 36)]), none⟩, 
               ⟨(some 38), (.append 5 1 1 [(.int .u8 0)] (.tmp 33) (.tmp 37)), none⟩, 
               ⟨(some 2), (.mv (.tmp 38)), none⟩])
              .ret))
            (.seq (.ops [
              ⟨(some 40), (.bin .eql (.tmp 7) (.const (.int .i64 4))), none⟩, 
              ⟨(some 39), (.mv (.tmp 40)), none⟩])
             (.cond (.tmp 39)
              (.seq (.ops [
                ⟨(some 41), (.buildSlice 5 1 [(.int .u8 0)] [(0, 1, (.const (.int .u8 6)))]), none⟩, 
                ⟨(some 42), (.fieldAddr 2 (.tmp 1)), none⟩, 
                ⟨(some 43), (.load1 (.tmp 42)), none⟩, 
                ⟨(some 44), (.callF 30 [(.tmp 43)]), none⟩, 
                ⟨(some 45), (.append 5 1 1 [(.int .u8 0)] (.tmp 41) (.tmp 44)), none⟩, 
                ⟨(some 2), (.mv (.tmp 45)), none⟩])
               .ret)
              .skip))))))))))))
  (.seq (.ops [
    ⟨(some 46), (.buildSlice 5 1 [(.int .u8 0)] [(0, 1, (.const (.int .u8 7)))]), none⟩, 
    ⟨(some 47), (.fieldAddr 4 (.tmp 1)), none⟩, 
    ⟨(some 48), (.load1 (.tmp 47)), none⟩, 
    ⟨(some 49), (.lenSl (.tmp 48)), none⟩, 
    ⟨(some 50), (.convInt .u64 (.tmp 49)), none⟩, 
    ⟨(some 51), (.callF 29 [(.tmp 50)]), none⟩, 
    ⟨(some 52), (.append 5 1 1 [(.int .u8 0)] (.tmp 46) (.tmp 51)), none⟩, 
    ⟨(some 3), (.mv (.tmp 52)), none⟩])
   (.seq (.seq (.ops [
      ⟨(some 53), (.fieldAddr 0 (.tmp 1)), none⟩, 
      ⟨(some 54), (.load1 (.tmp 53)), none⟩, 
      ⟨(some 55), (.bin .eql (.tmp 54) (.const (.int .i64 6))), none⟩])
     (.cond (.tmp 55)
      (.ops [
       ⟨(some 56), (.mv (.tmp 3)), none⟩, 
       ⟨(some 57), (.idxSl 1 (.tmp 56) (.const (.int .i64 0))), none⟩, 
       ⟨none, (.store1 (.tmp 57) (.const (.int .u8 8))), none⟩])
      .skip))
    (.seq (.seq (.ops [
       ⟨(some 58), (.fieldAddr 4 (.tmp 1)), none⟩, 
       ⟨(some 59), (.load1 (.tmp 58)), none⟩, 
       ⟨(some 60), (.lenSl (.tmp 59)), none⟩, 
       ⟨(some 61), (.mv (.const (.int .i64 0))), none⟩])
      (.block 1
       (.loop
        (.seq (.ops [
          ⟨(some 62), (.bin .lss (.tmp 61) (.tmp 60)), none⟩])
         (.seq (.cond (.tmp 62)
           .skip
           (.exit 1))
          (.seq (.block 2
            (.seq (.ops [
              ⟨(some 63), (.mv (.tmp 61)), none⟩, 
              ⟨(some 64), (.idxSl 5 (.tmp 59) (.tmp 61)), none⟩, 
              ⟨(some 65), (.loadN 5 (.tmp 64)), none⟩, 
              ⟨(some 5), (.new 25 [(.int .i64 0), (.int .i64 0), (.string ⟨#[]⟩), (.slice none 0 0), (.slice none 0 0)]), none⟩, 
              ⟨(some 4), (.mv (.tmp 63)), none⟩, 
              ⟨none, (.storeN 5 (.tmp 5) (.tmp 65)), none⟩])
             (.seq (.seq (.ops [
                ⟨(some 66), (.fieldAddr 0 (.tmp 1)), none⟩, 
                ⟨(some 67), (.load1 (.tmp 66)), none⟩, 
                ⟨(some 68), (.bin .eql (.tmp 67) (.const (.int .i64 6))), none⟩])
               (.cond (.tmp 68)
                (.ops [
                 ⟨(some 69), (.mv (.tmp 3)), none⟩, 
                 ⟨(some 70), (.fieldAddr 3 (.tmp 1)), none⟩, 
                 ⟨(some 71), (.load1 (.tmp 70)), none⟩, 
                 ⟨(some 72), (.mv (.tmp 4)), none⟩, 
                 ⟨(some 73), (.idxSl 1 (.tmp 71) (.tmp 72)), none⟩, 
                 ⟨(some 74), (.load1 (.tmp 73)), none⟩, 
                 ⟨(some 75), (.callF 30 [(.tmp 74)]), none⟩, 
                 ⟨(some 76), (.append 5 1 1 [(.int .u8 0)] (.tmp 69) (.tmp 75)), none⟩, 
                 ⟨(some 3), (.mv (.tmp 76)), none⟩])
                .skip))
              (.ops [
               ⟨(some 77), (.mv (.tmp 3)), none⟩, 
               ⟨(some 78), (.loadN 5 (.tmp 5)), none⟩, 
               ⟨(some 79), (.callF 20 [(.tmp 78)]), none⟩, 
               ⟨(some 80), (.append 5 1 1 [(.int .u8 0)] (.tmp 77) (.tmp 79)), none⟩, 
               ⟨(some 3), (.mv (.tmp 80)), none⟩]))))
           (.ops [
            ⟨(some 81), (.bin .add (.tmp 61) (.const (.int .i64 1))), none⟩, 
            ⟨(some 61), (.mv (.tmp 81)), none⟩])))))))
     (.seq (.ops [
       ⟨(some 82), (.mv (.tmp 3)), none⟩, 
       ⟨(some 2), (.mv (.tmp 82)), none⟩])
      .ret))))))
theorem c20 {args : Array Value} {h : Heap} {R : Ending → Heap → Prop} (ha : args.size ≤ 83) (hh : aexec Try.prog ac20 (abody [(.slot 2)] R) ⟨initFr args.toList, []⟩ h) : HCalls Try.prog 20 args h R :=
  hcalls_of Try.func20 rfl rfl (by kernel_rfl) (by kernel_rfl) ha hh
/-- 21: credenza/codec.Read$1 -/
def ac21 : ACode :=
 (.block 0
 (.seq (.ops [
   ⟨(some 8), (.isNil 0 false (.tmp 6)), none⟩])
  (.cond (.tmp 8)
   (.ops [
    ⟨(some 3), (.mv (.tmp 6)), none⟩])
   (.seq (.ops [
     ⟨(some 9), (.assertT 28 (.int .i64 0) true (.tmp 6)), none⟩, 
     ⟨(some 10), (.extract (.tmp 9) 1), none⟩, 
     ⟨(some 11), (.extract (.tmp 9) 0), none⟩])
    (.cond (.tmp 10)
     (.seq (.ops [
       ⟨(some 4), (.mv (.tmp 11)), none⟩])
      (.ops [
       ⟨(some 12), (.build [(.int .i64 0), (.int .i64 0), (.string ⟨#[]⟩), (.slice none 0 0), (.slice none 0 0)] []), none⟩, 
       ⟨(some 13), (.mv (.tmp 4)), none⟩, 
       ⟨none, (.storeN 5 (.tmp 0) (.tmp 12)), none⟩, 
       ⟨none, (.store1 (.tmp 1) (.const (.int .i64 0))), none⟩, 
       ⟨none, (.store1 (.tmp 2) (.tmp 13)), none⟩]))
     (.seq (.ops [
       ⟨(some 5), (.mv (.tmp 6)), none⟩])
      (.ops [
       ⟨(some 7), (.mv (.tmp 5)), none⟩, 
       ⟨none, (.panicI (.tmp 7)), none⟩])))))))
theorem d21 {args : Array Value} {h : Heap} {u : FrameMode} {R : Ending → FrameMode → Heap → Prop} (ha : args.size ≤ 14) (hh : aexec Try.prog ac21 (abody [] fun e h' => R e (recov u).2 h') ⟨upd (initFr args.toList) 6 (recov u).1, []⟩ h) : HCallsD Try.prog 21 args u h R :=
  hcallsD_recover Try.func21 rfl rfl rfl (by decide) (by kernel_rfl) (by kernel_rfl) ha hh
/-- 22: (*credenza/codec.reader).value -/
def ac22 : ACode :=
 (.seq (.ops [
  ⟨(some 2), (.new 25 [(.int .i64 0), (.int .i64 0), (.string ⟨#[]⟩), (.slice none 0 0), (.slice none 0 0)]), none⟩])
 (.seq (.ops [
   ⟨(some 6), (.mv (.tmp 0)), none⟩, 
   ⟨(some 7), (.nilCheck (.tmp 6)), none⟩, 
   ⟨(some 8), (.fieldAddr 0 (.tmp 7)), none⟩, 
   ⟨(some 9), (.load1 (.tmp 8)), none⟩, 
   ⟨(some 10), (.lenSl (.tmp 9)), none⟩, 
   ⟨(some 11), (.bin .gtr (.tmp 10) (.const (.int .i64 0))), none⟩, 
   ⟨(some 12), (.callF 31 [(.tmp 11), (.const (.int .i64 20))]), none⟩])
  (.seq (.ops [
    ⟨(some 13), (.mv (.tmp 0)), none⟩, 
    ⟨(some 14), (.nilCheck (.tmp 13)), none⟩, 
    ⟨(some 15), (.fieldAddr 1 (.tmp 14)), none⟩, 
    ⟨(some 16), (.load1 (.tmp 15)), none⟩, 
    ⟨(some 17), (.bin .lss (.tmp 16) (.const (.int .i64 20))), none⟩, 
    ⟨(some 18), (.callF 31 [(.tmp 17), (.const (.int .i64 31))]), none⟩])
   (.seq (.ops [
     ⟨(some 19), (.mv (.tmp 0)), none⟩, 
     ⟨(some 20), (.nilCheck (.tmp 19)), none⟩, 
     ⟨(some 21), (.fieldAddr 0 (.tmp 20)), none⟩, 
     ⟨(some 22), (.load1 (.tmp 21)), none⟩, 
     ⟨(some 23), (.idxSl 1 (.tmp 22) (.const (.int .i64 0))), none⟩, 
     ⟨(some 24), (.load1 (.tmp 23)), none⟩, 
     ⟨(some 3), (.mv (.tmp 24)), none⟩])
    (.seq (.ops [
      ⟨(some 25), (.mv (.tmp 0)), none⟩, 
      ⟨(some 26), (.mv (.tmp 0)), none⟩, 
      ⟨(some 27), (.nilCheck (.tmp 26)), none⟩, 
      ⟨(some 28), (.fieldAddr 0 (.tmp 27)), none⟩, 
      ⟨(some 29), (.load1 (.tmp 28)), none⟩, 
      ⟨(some 30), (.sliceSl 1 (.tmp 29) (some (.const (.int .i64 1))) none none), none⟩, 
      ⟨(some 31), (.nilCheck (.tmp 25)), none⟩, 
      ⟨(some 32), (.fieldAddr 0 (.tmp 31)), none⟩, 
      ⟨none, (.store1 (.tmp 32) (.tmp 30)), none⟩])
     (.seq (.seq (.ops [
        ⟨(some 33), (.mv (.tmp 3)), none⟩])
       (.block 0
        (.seq (.seq (.ops [
           ⟨(some 35), (.bin .eql (.tmp 33) (.const (.int .u8 0))), none⟩, 
           ⟨(some 34), (.mv (.tmp 35)), none⟩])
          (.cond (.tmp 34)
           .skip
           (.ops [
            ⟨(some 36), (.bin .eql (.tmp 33) (.const (.int .u8 1))), none⟩, 
            ⟨(some 34), (.mv (.tmp 36)), none⟩])))
         (.cond (.tmp 34)
          (.seq (.ops [
            ⟨(some 37), (.mv (.tmp 3)), none⟩, 
            ⟨(some 38), (.convInt .i64 (.tmp 37)), none⟩, 
            ⟨(some 39), (.build [(.int .i64 0), (.int .i64 0), (.string ⟨#[]⟩), (.slice none 0 0), (.slice none 0 0)] [(0, 1, (.tmp 38))]), none⟩, 
            ⟨none, (.storeN 5 (.tmp 2) (.tmp 39)), none⟩])
           .ret)
          (.seq (.seq (.ops [
             ⟨(some 41), (.bin .eql (.tmp 33) (.const (.int .u8 2))), none⟩, 
             ⟨(some 40), (.mv (.tmp 41)), none⟩])
            (.cond (.tmp 40)
             .skip
             (.ops [
              ⟨(some 42), (.bin .eql (.tmp 33) (.const (.int .u8 3))), none⟩, 
              ⟨(some 40), (.mv (.tmp 42)), none⟩])))
           (.cond (.tmp 40)
            (.seq (.ops [
              ⟨(some 43), (.mv (.tmp 3)), none⟩, 
              ⟨(some 44), (.bin .sub (.tmp 43) (.const (.int .u8 2))), none⟩, 
              ⟨(some 45), (.convInt .i64 (.tmp 44)), none⟩, 
              ⟨(some 46), (.build [(.int .i64 0), (.int .i64 0), (.string ⟨#[]⟩), (.slice none 0 0), (.slice none 0 0)] [(0, 1, (.const (.int .i64 2))), (1, 1, (.tmp 45))]), none⟩, 
              ⟨none, (.storeN 5 (.tmp 2) (.tmp 46)), none⟩])
             .ret)
            (.seq (.seq (.ops [
               ⟨(some 48), (.bin .eql (.tmp 33) (.const (.int .u8 4))), none⟩, 
               ⟨(some 47), (.mv (.tmp 48)), none⟩])
              (.cond (.tmp 47)
               .skip
               (.ops [
                ⟨(some 49), (.bin .eql (.tmp 33) (.const (.int .u8 5))), none⟩, 
                ⟨(some 47), (.mv (.tmp 49)), none⟩])))
             (.cond (.tmp 47)
              (.seq (.ops [
                ⟨(some 50), (.mv (.tmp 0)), none⟩, 
                ⟨(some 51), (.callF 32 [(.tmp 50)]), none⟩, 
                ⟨(some 4), (.mv (.tmp 51)), none⟩])
               (.seq (.ops [
                 ⟨(some 52), (.mv (.tmp 4)), none⟩, 
                 ⟨(some 53), (.mv (.tmp 3)), none⟩, 
                 ⟨(some 54), (.bin .sub (.tmp 53) (.const (.int .u8 4))), none⟩, 
                 ⟨(some 55), (.convInt .u64 (.tmp 54)), none⟩, 
                 ⟨(some 56), (.bin .sub (.const (.int .u64 9007199254740991)) (.tmp 55)), none⟩, 
                 ⟨(some 57), (.bin .leq (.tmp 52) (.tmp 56)), none⟩, 
                 ⟨(some 58), (.callF 31 [(.tmp 57), (.const (.int .i64 22))]), none⟩])
                (.seq (.seq (.ops [
                   ⟨(some 59), (.mv (.tmp 3)), none⟩, 
                   ⟨(some 60), (.bin .eql (.tmp 59) (.const (.int .u8 5))), none⟩])
                  (.cond (.tmp 60)
                   (.seq (.ops [
                     ⟨(some 61), (.mv (.tmp 4)), none⟩, 
                     ⟨(some 62), (.convInt .i64 (.tmp 61)), none⟩, 
                     ⟨(some 63), (.un .xor (.tmp 62)), none⟩, 
                     ⟨(some 64), (.build [(.int .i64 0), (.int .i64 0), (.string ⟨#[]⟩), (.slice none 0 0), (.slice none 0 0)] [(0, 1, (.const (.int .i64 3))), (1, 1, (.tmp 63))]), none⟩, 
                     ⟨none, (.storeN 5 (.tmp 2) (.tmp 64)), none⟩])
                    .ret)
                   .skip))
                 (.seq (.ops [
                   ⟨(some 65), (.mv (.tmp 4)), none⟩, 
                   ⟨(some 66), (.convInt .i64 (.tmp 65)), none⟩, 
                   ⟨(some 67), (.build [(.int .i64 0), (.int .i64 0), (.string ⟨#[]⟩), (.slice none 0 0), (.slice none 0 0)] [(0, 1, (.const (.int .i64 3))), (1, 1, (.tmp 66))]), none⟩, 
                   ⟨none, (.storeN 5 (.tmp 2) (.tmp 67)), none⟩])
                  .ret))))
              (.seq (.ops [
                ⟨(some 69), (.bin .eql (.tmp 33) (.const (.int .u8 6))), none⟩, 
                ⟨(some 68), (.mv (.tmp 69)), none⟩])
               (.cond (.tmp 68)
                (.seq (.ops [
                  ⟨(some 70), (.mv (.tmp 0)), none⟩, 
                  ⟨(some 71), (.callF 33 [(.tmp 70)]), none⟩, 
                  ⟨(some 5), (.mv (.tmp 71)), none⟩])
                 (.seq (.ops [
                   ⟨(some 72), (.mv (.tmp 5)), none⟩, 
                   ⟨(some 73), (.build [(.int .i64 0), (.int .i64 0), (.string ⟨#[]⟩), (.slice none 0 0), (.slice none 0 0)] [(0, 1, (.const (.int .i64 4))), (2, 1, (.tmp 72))]), none⟩, 
                   ⟨none, (.storeN 5 (.tmp 2) (.tmp 73)), none⟩])
                  .ret))
                (.seq (.seq (.ops [
                   ⟨(some 75), (.bin .eql (.tmp 33) (.const (.int .u8 7))), none⟩, 
                   ⟨(some 74), (.mv (.tmp 75)), none⟩])
                  (.cond (.tmp 74)
                   .skip
                   (.ops [
                    ⟨(some 76), (.bin .eql (.tmp 33) (.const (.int .u8 8))), none⟩, 
                    ⟨(some 74), (.mv (.tmp 76)), none⟩])))
                 (.cond (.tmp 74)
                  (.seq (.ops [
                    ⟨(some 77), (.mv (.tmp 0)), none⟩, 
                    ⟨(some 78), (.mv (.tmp 3)), none⟩, 
                    ⟨(some 79), (.bin .eql (.tmp 78) (.const (.int .u8 8))), none⟩, 
                    ⟨(some 80), (.callF 34 [(.tmp 77), (.tmp 79)]), none⟩, 
                    ⟨none, (.storeN 5 (.tmp 2) (.tmp 80)), none⟩])
                   .ret)
                  .skip))))))))))))
      (.ops [
       ⟨(some 81), (.mkIface 28 (.const (.int .i64 22))), none⟩, 
       ⟨none, (.panicI (.tmp 81)), none⟩])))))))
theorem c22 {args : Array Value} {h : Heap} {R : Ending → Heap → Prop} (ha : args.size ≤ 82) (hh : aexec Try.prog ac22 (abody [(.cellN 2 5)] R) ⟨initFr args.toList, []⟩ h) : HCalls Try.prog 22 args h R :=
  hcalls_of Try.func22 rfl rfl (by kernel_rfl) (by kernel_rfl) ha hh
/-- 23: credenza/credenzaref04.read -/
def ac23 : ACode :=
 (.seq (.ops [
  ⟨(some 4), (.new 25 [(.int .i64 0), (.int .i64 0), (.string ⟨#[]⟩), (.slice none 0 0), (.slice none 0 0)]), none⟩, 
  ⟨(some 5), (.mv (.const (.int .i64 0))), none⟩, 
  ⟨(some 6), (.mv (.const (.int .i64 0))), none⟩])
 (.seq (.seq (.ops [
    ⟨(some 13), (.mv (.tmp 0)), none⟩, 
    ⟨(some 14), (.lenSl (.tmp 13)), none⟩, 
    ⟨(some 15), (.bin .eql (.tmp 14) (.const (.int .i64 0))), none⟩])
   (.cond (.tmp 15)
    (.seq (.ops [
      ⟨(some 16), (.build [(.int .i64 0), (.int .i64 0), (.string ⟨#[]⟩), (.slice none 0 0), (.slice none 0 0)] []), none⟩, 
      ⟨none, (.storeN 5 (.tmp 4) (.tmp 16)), none⟩, 
      ⟨(some 5), (.mv (.const (.int .i64 0))), none⟩, 
      ⟨(some 6), (.mv (.const (.int .i64 20))), none⟩])
     .ret)
    .skip))
  (.seq (.seq (.ops [
     ⟨(some 17), (.mv (.tmp 1)), none⟩, 
     ⟨(some 18), (.bin .geq (.tmp 17) (.const (.int .i64 20))), none⟩])
    (.cond (.tmp 18)
     (.seq (.ops [
       ⟨(some 19), (.build [(.int .i64 0), (.int .i64 0), (.string ⟨#[]⟩), (.slice none 0 0), (.slice none 0 0)] []), none⟩, 
       ⟨none, (.storeN 5 (.tmp 4) (.tmp 19)), none⟩, 
       ⟨(some 5), (.mv (.const (.int .i64 0))), none⟩, 
       ⟨(some 6), (.mv (.const (.int .i64 31))), none⟩])
      .ret)
     .skip))
   (.seq (.ops [
     ⟨(some 20), (.build [(.int .i64 0), (.int .i64 0), (.string ⟨#[]⟩), (.slice none 0 0), (.slice none 0 0)] []), none⟩, 
     ⟨(some 7), (.new 25 [(.int .i64 0), (.int .i64 0), (.string ⟨#[]⟩), (.slice none 0 0), (.slice none 0 0)]), none⟩, 
     ⟨none, (.storeN 5 (.tmp 7) (.tmp 20)), none⟩])
    (.seq (.ops [
      ⟨(some 8), (.mv (.const (.int .i64 0))), none⟩])
     (.seq (.ops [
       ⟨(some 9), (.mv (.const (.int .i64 0))), none⟩])
      (.seq (.seq (.ops [
         ⟨(some 21), (.mv (.tmp 0)), none⟩, 
         ⟨(some 22), (.idxSl 1 (.tmp 21) (.const (.int .i64 0))), none⟩, 
         ⟨(some 23), (.load1 (.tmp 22)), none⟩])
        (.block 0
         (.seq (.ops [
           ⟨(some 25), (.bin .eql (.tmp 23) (.const (.int .u8 0))), none⟩, 
           ⟨(some 24), (.mv (.tmp 25)), none⟩])
          (.cond (.tmp 24)
           .skip
           (.seq (.ops [
             ⟨(some 27), (.bin .eql (.tmp 23) (.const (.int .u8 1))), none⟩, 
             ⟨(some 26), (.mv (.tmp 27)), none⟩])
            (.cond (.tmp 26)
             (.ops [
              ⟨(some 28), (.fieldAddr 0 (.tmp 7)), none⟩, 
              ⟨none, (.store1 (.tmp 28) (.const (.int .i64 1))), none⟩])
             (.seq (.seq (.ops [
                ⟨(some 30), (.bin .eql (.tmp 23) (.const (.int .u8 2))), none⟩, 
                ⟨(some 29), (.mv (.tmp 30)), none⟩])
               (.cond (.tmp 29)
                .skip
                (.ops [
                 ⟨(some 31), (.bin .eql (.tmp 23) (.const (.int .u8 3))), none⟩, 
                 ⟨(some 29), (.mv (.tmp 31)), none⟩])))
              (.cond (.tmp 29)
               (.ops [
                ⟨(some 32), (.mv (.tmp 0)), none⟩, 
                ⟨(some 33), (.idxSl 1 (.tmp 32) (.const (.int .i64 0))), none⟩, 
                ⟨(some 34), (.load1 (.tmp 33)), none⟩, 
                ⟨(some 35), (.convInt .i64 (.tmp 34)), none⟩, 
                ⟨(some 36), (.bin .sub (.tmp 35) (.const (.int .i64 2))), none⟩, 
                ⟨(some 37), (.build [(.int .i64 0), (.int .i64 0), (.string ⟨#[]⟩), (.slice none 0 0), (.slice none 0 0)] [(0, 1, (.const (.int .i64 2))), (1, 1, (.tmp 36))]), none⟩, 
                ⟨none, (.storeN 5 (.tmp 7) (.tmp 37)), none⟩])
               (.seq (.seq (.ops [
                  ⟨(some 39), (.bin .eql (.tmp 23) (.const (.int .u8 4))), none⟩, 
                  ⟨(some 38), (.mv (.tmp 39)), none⟩])
                 (.cond (.tmp 38)
                  .skip
                  (.ops [
                   ⟨(some 40), (.bin .eql (.tmp 23) (.const (.int .u8 5))), none⟩, 
                   ⟨(some 38), (.mv (.tmp 40)), none⟩])))
                (.cond (.tmp 38)
                 (.any [42, 43, 44, 45, 46, 47, 41, 48, 49, 50, 8, 9] [
                  ⟨(some 42), (.mv (.tmp 0)), none⟩, 
                  ⟨(some 43), (.idxSl 1 (.tmp 42) (.const (.int .i64 0))), none⟩, 
                  ⟨(some 44), (.load1 (.tmp 43)), none⟩, 
                  ⟨(some 45), (.mv (.tmp 0)), none⟩, 
                  ⟨(some 46), (.sliceSl 1 (.tmp 45) (some (.const (.int .i64 1))) none none), none⟩, 
                  ⟨(some 47), (.callF 35 [(.tmp 44), (.tmp 46)]), none⟩, 
                  ⟨(some 41), (.mv (.tmp 47)), none⟩, 
                  ⟨(some 48), (.extract (.tmp 41) 0), none⟩, 
                  ⟨(some 49), (.extract (.tmp 41) 1), none⟩, 
                  ⟨(some 50), (.extract (.tmp 41) 2), none⟩, 
                  ⟨none, (.storeN 5 (.tmp 7) (.tmp 48)), none⟩, 
                  ⟨(some 8), (.mv (.tmp 49)), none⟩, 
                  ⟨(some 9), (.mv (.tmp 50)), none⟩])
                 (.seq (.ops [
                   ⟨(some 52), (.bin .eql (.tmp 23) (.const (.int .u8 6))), none⟩, 
                   ⟨(some 51), (.mv (.tmp 52)), none⟩])
                  (.cond (.tmp 51)
                   (.seq (.ops [
                     ⟨(some 54), (.mv (.tmp 0)), none⟩, 
                     ⟨(some 55), (.sliceSl 1 (.tmp 54) (some (.const (.int .i64 1))) none none), none⟩, 
                     ⟨(some 56), (.callF 36 [(.tmp 55)]), none⟩, 
                     ⟨(some 53), (.mv (.tmp 56)), none⟩, 
                     ⟨(some 57), (.extract (.tmp 53) 0), none⟩, 
                     ⟨(some 58), (.extract (.tmp 53) 1), none⟩, 
                     ⟨(some 59), (.extract (.tmp 53) 2), none⟩, 
                     ⟨(some 10), (.mv (.tmp 57)), none⟩, 
                     ⟨(some 11), (.mv (.tmp 58)), none⟩, 
                     ⟨(some 12), (.mv (.tmp 59)), none⟩])
                    (.seq (.ops [
                      ⟨(some 60), (.mv (.tmp 10)), none⟩, 
                      ⟨(some 61), (.build [(.int .i64 0), (.int .i64 0), (.string ⟨#[]⟩), (.slice none 0 0), (.slice none 0 0)] [(0, 1, (.const (.int .i64 4))), (2, 1, (.tmp 60))]), none⟩, 
                      ⟨none, (.storeN 5 (.tmp 7) (.tmp 61)), none⟩])
                     (.seq (.ops [
                       ⟨(some 62), (.mv (.tmp 11)), none⟩, 
                       ⟨(some 8), (.mv (.tmp 62)), none⟩])
                      (.ops [
                       ⟨(some 63), (.mv (.tmp 12)), none⟩, 
                       ⟨(some 9), (.mv (.tmp 63)), none⟩]))))
                   (.seq (.ops [
                     ⟨(some 65), (.bin .eql (.tmp 23) (.const (.int .u8 7))), none⟩, 
                     ⟨(some 64), (.mv (.tmp 65)), none⟩])
                    (.cond (.tmp 64)
                     (.ops [
                      ⟨(some 67), (.build [(.int .i64 0), (.int .i64 0), (.string ⟨#[]⟩), (.slice none 0 0), (.slice none 0 0)] [(0, 1, (.const (.int .i64 5)))]), none⟩, 
                      ⟨(some 68), (.mv (.tmp 0)), none⟩, 
                      ⟨(some 69), (.sliceSl 1 (.tmp 68) (some (.const (.int .i64 1))) none none), none⟩, 
                      ⟨(some 70), (.mv (.tmp 1)), none⟩, 
                      ⟨(some 71), (.callF 37 [(.tmp 67), (.tmp 69), (.tmp 70)]), none⟩, 
                      ⟨(some 66), (.mv (.tmp 71)), none⟩, 
                      ⟨(some 72), (.extract (.tmp 66) 0), none⟩, 
                      ⟨(some 73), (.extract (.tmp 66) 1), none⟩, 
                      ⟨(some 74), (.extract (.tmp 66) 2), none⟩, 
                      ⟨none, (.storeN 5 (.tmp 7) (.tmp 72)), none⟩, 
                      ⟨(some 8), (.mv (.tmp 73)), none⟩, 
                      ⟨(some 9), (.mv (.tmp 74)), none⟩])
                     (.seq (.ops [
                       ⟨(some 76), (.bin .eql (.tmp 23) (.const (.int .u8 8))), none⟩, 
                       ⟨(some 75), (.mv (.tmp 76)), none⟩])
                      (.cond (.tmp 75)
                       (.ops [
                        ⟨(some 78), (.build [(.int .i64 0), (.int .i64 0), (.string ⟨#[]⟩), (.slice none 0 0), (.slice none 0 0)] [(0, 1, (.const (.int .i64 6)))]), none⟩, 
                        ⟨(some 79), (.mv (.tmp 0)), none⟩, 
                        ⟨(some 80), (.sliceSl 1 (.tmp 79) (some (.const (.int .i64 1))) none none), none⟩, 
                        ⟨(some 81), (.mv (.tmp 1)), none⟩, 
                        ⟨(some 82), (.callF 37 [(.tmp 78), (.tmp 80), (.tmp 81)]), none⟩, 
                        ⟨(some 77), (.mv (.tmp 82)), none⟩, 
                        ⟨(some 83), (.extract (.tmp 77) 0), none⟩, 
                        ⟨(some 84), (.extract (.tmp 77) 1), none⟩, 
                        ⟨(some 85), (.extract (.tmp 77) 2), none⟩, 
                        ⟨none, (.storeN 5 (.tmp 7) (.tmp 83)), none⟩, 
                        ⟨(some 8), (.mv (.tmp 84)), none⟩, 
                        ⟨(some 9), (.mv (.tmp 85)), none⟩])
                       (.ops [
                        ⟨(some 9), (.mv (.const (.int .i64 22))), none⟩])))))))))))))))))
       (.seq (.seq (.ops [
          ⟨(some 86), (.mv (.tmp 9)), none⟩, 
          ⟨(some 87), (.bin .neq (.tmp 86) (.const (.int .i64 0))), none⟩])
         (.cond (.tmp 87)
          (.seq (.ops [
            ⟨(some 88), (.build [(.int .i64 0), (.int .i64 0), (.string ⟨#[]⟩), (.slice none 0 0), (.slice none 0 0)] []), none⟩, 
            ⟨(some 89), (.mv (.tmp 9)), none⟩, 
            ⟨none, (.storeN 5 (.tmp 4) (.tmp 88)), none⟩, 
            ⟨(some 5), (.mv (.const (.int .i64 0))), none⟩, 
            ⟨(some 6), (.mv (.tmp 89)), none⟩])
           .ret)
          .skip))
        (.seq (.ops [
          ⟨(some 90), (.loadN 5 (.tmp 7)), none⟩, 
          ⟨(some 91), (.mv (.tmp 8)), none⟩, 
          ⟨(some 92), (.bin .add (.tmp 91) (.const (.int .i64 1))), none⟩, 
          ⟨none, (.storeN 5 (.tmp 4) (.tmp 90)), none⟩, 
          ⟨(some 5), (.mv (.tmp 92)), none⟩, 
          ⟨(some 6), (.mv (.const (.int .i64 0))), none⟩])
         .ret)))))))))
theorem c23 {args : Array Value} {h : Heap} {R : Ending → Heap → Prop} (ha : args.size ≤ 93) (hh : aexec Try.prog ac23 (abody [(.cellN 4 5), (.slot 5), (.slot 6)] R) ⟨initFr args.toList, []⟩ h) : HCalls Try.prog 23 args h R :=
  hcalls_of Try.func23 rfl rfl (by kernel_rfl) (by kernel_rfl) ha hh
/-- 24: credenza/data.level -/
def ac24 : ACode :=
 (.seq (.ops [
  ⟨(some 1), (.box 25 (.tmp 0)), none⟩, 
  ⟨(some 2), (.mv (.const (.int .i64 0))), none⟩])
 (.seq (.ops [
   ⟨(some 3), (.mv (.const (.int .i64 0))), none⟩, 
   ⟨(some 4), (.mv (.const (.int .i64 0))), none⟩])
  (.seq (.any [12, 13, 14, 15, 16, 17, 18, 19, 20, 21, 22, 5, 6, 7] [
    ⟨(some 12), (.fieldAddr 2 (.tmp 1)), none⟩, 
    ⟨(some 13), (.load1 (.tmp 12)), none⟩, 
    ⟨(some 14), (.bin .eql (.tmp 13) (.const (.string ⟨#[]⟩))), none⟩, 
    ⟨(some 15), (.fieldAddr 4 (.tmp 1)), none⟩, 
    ⟨(some 16), (.load1 (.tmp 15)), none⟩, 
    ⟨(some 17), (.lenSl (.tmp 16)), none⟩, 
    ⟨(some 18), (.bin .eql (.tmp 17) (.const (.int .i64 0))), none⟩, 
    ⟨(some 19), (.fieldAddr 3 (.tmp 1)), none⟩, 
    ⟨(some 20), (.load1 (.tmp 19)), none⟩, 
    ⟨(some 21), (.lenSl (.tmp 20)), none⟩, 
    ⟨(some 22), (.bin .eql (.tmp 21) (.const (.int .i64 0))), none⟩, 
    ⟨(some 5), (.mv (.tmp 14)), none⟩, 
    ⟨(some 6), (.mv (.tmp 18)), none⟩, 
    ⟨(some 7), (.mv (.tmp 22)), none⟩])
   (.seq (.seq (.ops [
      ⟨(some 23), (.fieldAddr 0 (.tmp 1)), none⟩, 
      ⟨(some 24), (.load1 (.tmp 23)), none⟩])
     (.block 0
      (.seq (.seq (.ops [
         ⟨(some 26), (.bin .eql (.tmp 24) (.const (.int .i64 0))), none⟩, 
         ⟨(some 25), (.mv (.tmp 26)), none⟩])
        (.cond (.tmp 25)
         .skip
         (.ops [
          ⟨(some 27), (.bin .eql (.tmp 24) (.const (.int .i64 1))), none⟩, 
          ⟨(some 25), (.mv (.tmp 27)), none⟩])))
       (.cond (.tmp 25)
        .skip
        (.seq (.ops [
          ⟨(some 29), (.bin .eql (.tmp 24) (.const (.int .i64 2))), none⟩, 
          ⟨(some 28), (.mv (.tmp 29)), none⟩])
         (.cond (.tmp 28)
          (.ops [
           ⟨(some 4), (.mv (.const (.int .i64 1))), none⟩])
          (.seq (.ops [
            ⟨(some 31), (.bin .eql (.tmp 24) (.const (.int .i64 3))), none⟩, 
            ⟨(some 30), (.mv (.tmp 31)), none⟩])
           (.cond (.tmp 30)
            (.ops [
             ⟨(some 3), (.mv (.const (.int .i64 (-9007199254740991)))), none⟩, 
             ⟨(some 4), (.mv (.const (.int .i64 9007199254740991))), none⟩])
            (.seq (.ops [
              ⟨(some 33), (.bin .eql (.tmp 24) (.const (.int .i64 4))), none⟩, 
              ⟨(some 32), (.mv (.tmp 33)), none⟩])
             (.cond (.tmp 32)
              (.ops [
               ⟨(some 34), (.fieldAddr 2 (.tmp 1)), none⟩, 
               ⟨(some 35), (.load1 (.tmp 34)), none⟩, 
               ⟨(some 36), (.callF 38 [(.tmp 35)]), none⟩, 
               ⟨(some 5), (.mv (.tmp 36)), none⟩])
              (.seq (.ops [
                ⟨(some 38), (.bin .eql (.tmp 24) (.const (.int .i64 5))), none⟩, 
                ⟨(some 37), (.mv (.tmp 38)), none⟩])
               (.cond (.tmp 37)
                (.ops [
                 ⟨(some 6), (.mv (.const (.bool true))), none⟩])
                (.seq (.ops [
                  ⟨(some 40), (.bin .eql (.tmp 24) (.const (.int .i64 6))), none⟩, 
                  ⟨(some 39), (.mv (.tmp 40)), none⟩])
                 (.cond (.tmp 39)
                  (.ops [
                   ⟨(some 41), (.loadN 5 (.tmp 1)), none⟩, 
                   ⟨(some 42), (.callF 39 [(.tmp 41)]), none⟩, 
                   ⟨(some 6), (.mv (.const (.bool true))), none⟩, 
                   ⟨(some 7), (.mv (.tmp 42)), none⟩])
                  (.seq (.ops [
                    ⟨(some 2), (.mv (.const (.int .i64 0))), none⟩])
                   .ret)))))))))))))))
    (.seq (.seq (.ops [
       ⟨(some 43), (.fieldAddr 1 (.tmp 1)), none⟩, 
       ⟨(some 44), (.load1 (.tmp 43)), none⟩, 
       ⟨(some 45), (.mv (.tmp 3)), none⟩, 
       ⟨(some 46), (.bin .lss (.tmp 44) (.tmp 45)), none⟩, 
       ⟨(some 47), (.mv (.tmp 46)), none⟩, 
       ⟨(some 48), (.fieldAddr 1 (.tmp 1)), (some (47, false))⟩, 
       ⟨(some 49), (.load1 (.tmp 48)), (some (47, false))⟩, 
       ⟨(some 50), (.mv (.tmp 4)), (some (47, false))⟩, 
       ⟨(some 51), (.bin .gtr (.tmp 49) (.tmp 50)), (some (47, false))⟩, 
       ⟨(some 52), (.pick (.tmp 47) (.const (.bool true)) (.tmp 51)), none⟩, 
       ⟨(some 53), (.mv (.tmp 52)), none⟩, 
       ⟨(some 54), (.mv (.tmp 5)), (some (53, false))⟩, 
       ⟨(some 55), (.un .not (.tmp 54)), (some (53, false))⟩, 
       ⟨(some 56), (.pick (.tmp 53) (.const (.bool true)) (.tmp 55)), none⟩, 
       ⟨(some 57), (.mv (.tmp 56)), none⟩, 
       ⟨(some 58), (.mv (.tmp 6)), (some (57, false))⟩, 
       ⟨(some 59), (.un .not (.tmp 58)), (some (57, false))⟩, 
       ⟨(some 60), (.pick (.tmp 57) (.const (.bool true)) (.tmp 59)), none⟩, 
       ⟨(some 61), (.mv (.tmp 60)), none⟩, 
       ⟨(some 62), (.mv (.tmp 7)), (some (61, false))⟩, 
       ⟨(some 63), (.un .not (.tmp 62)), (some (61, false))⟩, 
       ⟨(some 64), (.pick (.tmp 61) (.const (.bool true)) (.tmp 63)), none⟩])
      (.cond (.tmp 64)
       (.seq (.ops [
         ⟨(some 2), (.mv (.const (.int .i64 0))), none⟩])
        .ret)
       .skip))
     (.seq (.ops [
       ⟨(some 8), (.mv (.const (.int .i64 1))), none⟩])
      (.seq (.seq (.ops [
         ⟨(some 65), (.fieldAddr 4 (.tmp 1)), none⟩, 
         ⟨(some 66), (.load1 (.tmp 65)), none⟩, 
         ⟨(some 67), (.lenSl (.tmp 66)), none⟩, 
         ⟨(some 68), (.mv (.const (.int .i64 0))), none⟩])
        (.block 1
         (.loop
          (.seq (.ops [
            ⟨(some 69), (.bin .lss (.tmp 68) (.tmp 67)), none⟩])
           (.seq (.cond (.tmp 69)
             .skip
             (.exit 1))
            (.seq (.block 2
              (.seq (.ops [
                ⟨(some 70), (.idxSl 5 (.tmp 66) (.tmp 68)), none⟩, 
                ⟨(some 71), (.loadN 5 (.tmp 70)), none⟩, 
                ⟨(some 10), (.new 25 [(.int .i64 0), (.int .i64 0), (.string ⟨#[]⟩), (.slice none 0 0), (.slice none 0 0)]), none⟩, 
                ⟨none, (.storeN 5 (.tmp 10) (.tmp 71)), none⟩])
               (.seq (.ops [
                 ⟨(some 72), (.loadN 5 (.tmp 10)), none⟩, 
                 ⟨(some 73), (.callF 24 [(.tmp 72)]), none⟩, 
                 ⟨(some 11), (.mv (.tmp 73)), none⟩])
                (.seq (.seq (.ops [
                   ⟨(some 74), (.mv (.tmp 11)), none⟩, 
                   ⟨(some 75), (.bin .eql (.tmp 74) (.const (.int .i64 0))), none⟩])
                  (.cond (.tmp 75)
                   (.seq (.ops [
                     ⟨(some 2), (.mv (.const (.int .i64 0))), none⟩])
                    .ret)
                   .skip))
                 (.ops [
                  ⟨(some 76), (.mv (.tmp 8)), none⟩, 
                  ⟨(some 77), (.mv (.tmp 11)), none⟩, 
                  ⟨(some 78), (.bin .add (.tmp 77) (.const (.int .i64 1))), none⟩, 
                  ⟨(some 79), (.minmax true (.tmp 76) [(.tmp 78)]), none⟩, 
                  ⟨(some 8), (.mv (.tmp 79)), none⟩])))))
             (.ops [
              ⟨(some 80), (.bin .add (.tmp 68) (.const (.int .i64 1))), none⟩, 
              ⟨(some 68), (.mv (.tmp 80)), none⟩])))))))
       (.seq (.ops [
         ⟨(some 81), (.mv (.tmp 8)), none⟩, 
         ⟨(some 2), (.mv (.tmp 81)), none⟩])
        .ret))))))))
theorem c24 {args : Array Value} {h : Heap} {R : Ending → Heap → Prop} (ha : args.size ≤ 82) (hh : aexec Try.prog ac24 (abody [(.slot 2)] R) ⟨initFr args.toList, []⟩ h) : HCalls Try.prog 24 args h R :=
  hcalls_of Try.func24 rfl rfl (by kernel_rfl) (by kernel_rfl) ha hh
/-- 25: credenza/octets.Num -/
def ac25 : ACode :=
 (.seq (.ops [
  ⟨(some 2), (.mv (.const (.slice none 0 0))), none⟩])
 (.seq (.ops [
   ⟨(some 3), (.mv (.const (.slice none 0 0))), none⟩])
  (.seq (.block 0
    (.loop
     (.seq (.seq (.ops [
        ⟨(some 4), (.mv (.tmp 0)), none⟩, 
        ⟨(some 5), (.bin .gtr (.tmp 4) (.const (.int .u64 127))), none⟩])
       (.cond (.tmp 5)
        .skip
        (.exit 0)))
      (.seq (.block 1
        (.ops [
         ⟨(some 8), (.mv (.tmp 3)), none⟩, 
         ⟨(some 9), (.mv (.tmp 0)), none⟩, 
         ⟨(some 10), (.convInt .u8 (.tmp 9)), none⟩, 
         ⟨(some 11), (.bin .or (.tmp 10) (.const (.int .u8 128))), none⟩, 
         ⟨(some 12), (.buildSlice 5 1 [(.int .u8 0)] [(0, 1, (.tmp 11))]), none⟩, 
         ⟨(some 13), (.append 5 1 1 [(.int .u8 0)] (.tmp 8) (.tmp 12)), none⟩, 
         ⟨(some 3), (.mv (.tmp 13)), none⟩]))
       (.ops [
        ⟨(some 6), (.mv (.tmp 0)), none⟩, 
        ⟨(some 7), (.bin .shr (.tmp 6) (.const (.int .u64 7))), none⟩, 
        ⟨(some 0), (.mv (.tmp 7)), none⟩])))))
   (.seq (.ops [
     ⟨(some 14), (.mv (.tmp 3)), none⟩, 
     ⟨(some 15), (.mv (.tmp 0)), none⟩, 
     ⟨(some 16), (.convInt .u8 (.tmp 15)), none⟩, 
     ⟨(some 17), (.buildSlice 5 1 [(.int .u8 0)] [(0, 1, (.tmp 16))]), none⟩, 
     ⟨(some 18), (.append 5 1 1 [(.int .u8 0)] (.tmp 14) (.tmp 17)), none⟩, 
     ⟨(some 2), (.mv (.tmp 18)), none⟩])
    .ret))))
theorem c25 {args : Array Value} {h : Heap} {R : Ending → Heap → Prop} (ha : args.size ≤ 19) (hh : aexec Try.prog ac25 (abody [(.slot 2)] R) ⟨initFr args.toList, []⟩ h) : HCalls Try.prog 25 args h R :=
  hcalls_of Try.func25 rfl rfl (by kernel_rfl) (by kernel_rfl) ha hh
/-- 26: credenza/octets.Text -/
def ac26 : ACode :=
 (.seq (.ops [
  ⟨(some 2), (.mv (.const (.slice none 0 0))), none⟩])
 (.seq (.ops [
   ⟨(some 3), (.mv (.tmp 0)), none⟩, 
   ⟨(some 4), (.lenStr (.tmp 3)), none⟩, 
   ⟨(some 5), (.convInt .u64 (.tmp 4)), none⟩, 
   ⟨(some 6), (.callF 25 [(.tmp 5)]), none⟩, 
   ⟨(some 7), (.mv (.tmp 0)), none⟩, 
   ⟨(some 8), (.append 5 1 1 [(.int .u8 0)] (.tmp 6) (.tmp 7)), none⟩, 
   ⟨(some 2), (.mv (.tmp 8)), none⟩])
  .ret))
theorem c26 {args : Array Value} {h : Heap} {R : Ending → Heap → Prop} (ha : args.size ≤ 9) (hh : aexec Try.prog ac26 (abody [(.slot 2)] R) ⟨initFr args.toList, []⟩ h) : HCalls Try.prog 26 args h R :=
  hcalls_of Try.func26 rfl rfl (by kernel_rfl) (by kernel_rfl) ha hh
/-- 27: credenza/credenzaref03.may -/
def ac27 : ACode :=
 (.seq (.ops [
  ⟨(some 1), (.box 25 (.tmp 0)), none⟩, 
  ⟨(some 2), (.mv (.const (.bool false))), none⟩])
 (.seq (.seq (.ops [
    ⟨(some 5), (.loadN 5 (.tmp 1)), none⟩, 
    ⟨(some 6), (.callF 40 [(.tmp 5)]), none⟩, 
    ⟨(some 7), (.un .not (.tmp 6)), none⟩])
   (.cond (.tmp 7)
    (.seq (.ops [
      ⟨(some 2), (.mv (.const (.bool false))), none⟩])
     .ret)
    .skip))
  (.seq (.seq (.ops [
     ⟨(some 8), (.fieldAddr 4 (.tmp 1)), none⟩, 
     ⟨(some 9), (.load1 (.tmp 8)), none⟩, 
     ⟨(some 10), (.lenSl (.tmp 9)), none⟩, 
     ⟨(some 11), (.mv (.const (.int .i64 0))), none⟩])
    (.block 0
     (.loop
      (.seq (.ops [
        ⟨(some 12), (.bin .lss (.tmp 11) (.tmp 10)), none⟩])
       (.seq (.cond (.tmp 12)
         .skip
         (.exit 0))
        (.seq (.block 1
          (.seq (.ops [
            ⟨(some 13), (.idxSl 5 (.tmp 9) (.tmp 11)), none⟩, 
            ⟨(some 14), (.loadN 5 (.tmp 13)), none⟩, 
            ⟨(some 4), (.new 25 [(.int .i64 0), (.int .i64 0), (.string ⟨#[]⟩), (.slice none 0 0), (.slice none 0 0)]), none⟩, 
            ⟨none, (.storeN 5 (.tmp 4) (.tmp 14)), none⟩])
           (.seq (.ops [
             ⟨(some 15), (.loadN 5 (.tmp 4)), none⟩, 
             ⟨(some 16), (.callF 27 [(.tmp 15)]), none⟩, 
             ⟨(some 17), (.un .not (.tmp 16)), none⟩])
            (.cond (.tmp 17)
             (.seq (.ops [
               ⟨(some 2), (.mv (.const (.bool false))), none⟩])
              .ret)
             .skip))))
         (.ops [
          ⟨(some 18), (.bin .add (.tmp 11) (.const (.int .i64 1))), none⟩, 
          ⟨(some 11), (.mv (.tmp 18)), none⟩])))))))
   (.seq (.ops [
     ⟨(some 2), (.mv (.const (.bool true))), none⟩])
    .ret))))
theorem c27 {args : Array Value} {h : Heap} {R : Ending → Heap → Prop} (ha : args.size ≤ 19) (hh : aexec Try.prog ac27 (abody [(.slot 2)] R) ⟨initFr args.toList, []⟩ h) : HCalls Try.prog 27 args h R :=
  hcalls_of Try.func27 rfl rfl (by kernel_rfl) (by kernel_rfl) ha hh
/-- 28: credenza/credenzaref03.deep -/
def ac28 : ACode :=
 (.seq (.ops [
  ⟨(some 1), (.box 25 (.tmp 0)), none⟩, 
  ⟨(some 2), (.mv (.const (.int .i64 0))), none⟩])
 (.seq (.ops [
   ⟨(some 3), (.mv (.const (.int .i64 0))), none⟩])
  (.seq (.seq (.ops [
     ⟨(some 6), (.fieldAddr 4 (.tmp 1)), none⟩, 
     ⟨(some 7), (.load1 (.tmp 6)), none⟩, 
     ⟨(some 8), (.lenSl (.tmp 7)), none⟩, 
     ⟨(some 9), (.mv (.const (.int .i64 0))), none⟩])
    (.block 0
     (.loop
      (.seq (.ops [
        ⟨(some 10), (.bin .lss (.tmp 9) (.tmp 8)), none⟩])
       (.seq (.cond (.tmp 10)
         .skip
         (.exit 0))
        (.seq (.block 1
          (.seq (.ops [
            ⟨(some 11), (.idxSl 5 (.tmp 7) (.tmp 9)), none⟩, 
            ⟨(some 12), (.loadN 5 (.tmp 11)), none⟩, 
            ⟨(some 5), (.new 25 [(.int .i64 0), (.int .i64 0), (.string ⟨#[]⟩), (.slice none 0 0), (.slice none 0 0)]), none⟩, 
            ⟨none, (.storeN 5 (.tmp 5) (.tmp 12)), none⟩])
           (.ops [
            ⟨(some 13), (.mv (.tmp 3)), none⟩, 
            ⟨(some 14), (.loadN 5 (.tmp 5)), none⟩, 
            ⟨(some 15), (.callF 28 [(.tmp 14)]), none⟩, 
            ⟨(some 16), (.minmax true (.tmp 13) [(.tmp 15)]), none⟩, 
            ⟨(some 3), (.mv (.tmp 16)), none⟩])))
         (.ops [
          ⟨(some 17), (.bin .add (.tmp 9) (.const (.int .i64 1))), none⟩, 
          ⟨(some 9), (.mv (.tmp 17)), none⟩])))))))
   (.seq (.ops [
     ⟨(some 18), (.mv (.tmp 3)), none⟩, 
     ⟨(some 19), (.bin .add (.tmp 18) (.const (.int .i64 1))), none⟩, 
     ⟨(some 2), (.mv (.tmp 19)), none⟩])
    .ret))))
theorem c28 {args : Array Value} {h : Heap} {R : Ending → Heap → Prop} (ha : args.size ≤ 20) (hh : aexec Try.prog ac28 (abody [(.slot 2)] R) ⟨initFr args.toList, []⟩ h) : HCalls Try.prog 28 args h R :=
  hcalls_of Try.func28 rfl rfl (by kernel_rfl) (by kernel_rfl) ha hh
/-- 29: credenza/credenzaref02.Num -/
def ac29 : ACode :=
 (.seq (.ops [
  ⟨(some 2), (.mv (.const (.slice none 0 0))), none⟩])
 (.seq (.seq (.ops [
    ⟨(some 3), (.mv (.tmp 0)), none⟩, 
    ⟨(some 4), (.bin .lss (.tmp 3) (.const (.int .u64 128))), none⟩])
   (.cond (.tmp 4)
    (.seq (.ops [
      ⟨(some 5), (.mv (.tmp 0)), none⟩, 
      ⟨(some 6), (.convInt .u8 (.tmp 5)), none⟩, 
      ⟨(some 7), (.buildSlice 5 1 [(.int .u8 0)] [(0, 1, (.tmp 6))]), none⟩, 
      ⟨(some 2), (.mv (.tmp 7)), none⟩])
     .ret)
    .skip))
  (.seq (.ops [
    ⟨(some 8), (.mv (.tmp 0)), none⟩, 
    ⟨(some 9), (.bin .rem (.tmp 8) (.const (.int .u64 128))), none⟩, 
    ⟨(some 10), (.bin .add (.tmp 9) (.const (.int .u64 128))), none⟩, 
    ⟨(some 11), (.convInt .u8 (.tmp 10)), none⟩, 
    ⟨(some 12), (.buildSlice 5 1 [(.int .u8 0)] [(0, 1, (.tmp 11))]), none⟩, 
    ⟨(some 13), (.mv (.tmp 0)), none⟩, 
    ⟨(some 14), (.bin .quo (.tmp 13) (.const (.int .u64 128))), none⟩, 
    ⟨(some 15), (.callF 29 [(.tmp 14)]), none⟩, 
    ⟨(some 16), (.append 5 1 1 [(.int .u8 0)] (.tmp 12) (.tmp 15)), none⟩, 
    ⟨(some 2), (.mv (.tmp 16)), none⟩])
   .ret)))
theorem c29 {args : Array Value} {h : Heap} {R : Ending → Heap → Prop} (ha : args.size ≤ 17) (hh : aexec Try.prog ac29 (abody [(.slot 2)] R) ⟨initFr args.toList, []⟩ h) : HCalls Try.prog 29 args h R :=
  hcalls_of Try.func29 rfl rfl (by kernel_rfl) (by kernel_rfl) ha hh
/-- 30: credenza/credenzaref02.Text -/
def ac30 : ACode :=
 (.seq (.ops [
  ⟨(some 2), (.mv (.const (.slice none 0 0))), none⟩])
 (.seq (.ops [
   ⟨(some 3), (.mv (.tmp 0)), none⟩, 
   ⟨(some 4), (.lenStr (.tmp 3)), none⟩, 
   ⟨(some 5), (.convInt .u64 (.tmp 4)), none⟩, 
   ⟨(some 6), (.callF 29 [(.tmp 5)]), none⟩, 
   ⟨(some 7), (.mv (.tmp 0)), none⟩, 
   ⟨(some 8), (.append 5 1 1 [(.int .u8 0)] (.tmp 6) (.tmp 7)), none⟩, 
   ⟨(some 2), (.mv (.tmp 8)), none⟩])
  .ret))
theorem c30 {args : Array Value} {h : Heap} {R : Ending → Heap → Prop} (ha : args.size ≤ 9) (hh : aexec Try.prog ac30 (abody [(.slot 2)] R) ⟨initFr args.toList, []⟩ h) : HCalls Try.prog 30 args h R :=
  hcalls_of Try.func30 rfl rfl (by kernel_rfl) (by kernel_rfl) ha hh
/-- 31: credenza/codec.must -/
def ac31 : ACode :=
 (.seq (.ops [
  ⟨(some 4), (.mv (.tmp 0)), none⟩, 
  ⟨(some 5), (.un .not (.tmp 4)), none⟩])
 (.cond (.tmp 5)
  (.ops [
   ⟨(some 6), (.mv (.tmp 1)), none⟩, 
   ⟨(some 7), (.mkIface 28 (.tmp 6)), none⟩, 
   ⟨none, (.panicI (.tmp 7)), none⟩])
  .skip))
theorem c31 {args : Array Value} {h : Heap} {R : Ending → Heap → Prop} (ha : args.size ≤ 8) (hh : aexec Try.prog ac31 (abody [] R) ⟨initFr args.toList, []⟩ h) : HCalls Try.prog 31 args h R :=
  hcalls_of Try.func31 rfl rfl (by kernel_rfl) (by kernel_rfl) ha hh
/-- 32: (*credenza/codec.reader).num -/
def ac32 : ACode :=
 (.seq (.ops [
  ⟨(some 2), (.mv (.const (.int .u64 0))), none⟩])
 (.seq (.ops [
   ⟨(some 7), (.mv (.tmp 0)), none⟩, 
   ⟨(some 8), (.nilCheck (.tmp 7)), none⟩, 
   ⟨(some 9), (.fieldAddr 0 (.tmp 8)), none⟩, 
   ⟨(some 10), (.load1 (.tmp 9)), none⟩, 
   ⟨(some 11), (.callF 41 [(.tmp 10)]), none⟩, 
   ⟨(some 6), (.mv (.tmp 11)), none⟩, 
   ⟨(some 12), (.extract (.tmp 6) 0), none⟩, 
   ⟨(some 13), (.extract (.tmp 6) 1), none⟩, 
   ⟨(some 14), (.extract (.tmp 6) 2), none⟩, 
   ⟨(some 3), (.mv (.tmp 12)), none⟩, 
   ⟨(some 4), (.mv (.tmp 13)), none⟩, 
   ⟨(some 5), (.mv (.tmp 14)), none⟩])
  (.seq (.ops [
    ⟨(some 15), (.mv (.tmp 5)), none⟩, 
    ⟨(some 16), (.bin .eql (.tmp 15) (.const (.int .i64 0))), none⟩, 
    ⟨(some 17), (.mv (.tmp 5)), none⟩, 
    ⟨(some 18), (.callF 31 [(.tmp 16), (.tmp 17)]), none⟩])
   (.seq (.ops [
     ⟨(some 19), (.mv (.tmp 0)), none⟩, 
     ⟨(some 20), (.mv (.tmp 0)), none⟩, 
     ⟨(some 21), (.nilCheck (.tmp 20)), none⟩, 
     ⟨(some 22), (.fieldAddr 0 (.tmp 21)), none⟩, 
     ⟨(some 23), (.load1 (.tmp 22)), none⟩, 
     ⟨(some 24), (.mv (.tmp 4)), none⟩, 
     ⟨(some 25), (.sliceSl 1 (.tmp 23) (some (.tmp 24)) none none), none⟩, 
     ⟨(some 26), (.nilCheck (.tmp 19)), none⟩, 
     ⟨(some 27), (.fieldAddr 0 (.tmp 26)), none⟩, 
     ⟨none, (.store1 (.tmp 27) (.tmp 25)), none⟩])
    (.seq (.ops [
      ⟨(some 28), (.mv (.tmp 3)), none⟩, 
      ⟨(some 2), (.mv (.tmp 28)), none⟩])
     .ret)))))
theorem c32 {args : Array Value} {h : Heap} {R : Ending → Heap → Prop} (ha : args.size ≤ 29) (hh : aexec Try.prog ac32 (abody [(.slot 2)] R) ⟨initFr args.toList, []⟩ h) : HCalls Try.prog 32 args h R :=
  hcalls_of Try.func32 rfl rfl (by kernel_rfl) (by kernel_rfl) ha hh
/-- 33: (*credenza/codec.reader).text -/
def ac33 : ACode :=
 (.seq (.ops [
  ⟨(some 2), (.mv (.const (.string ⟨#[]⟩))), none⟩])
 (.seq (.ops [
   ⟨(some 7), (.mv (.tmp 0)), none⟩, 
   ⟨(some 8), (.nilCheck (.tmp 7)), none⟩, 
   ⟨(some 9), (.fieldAddr 0 (.tmp 8)), none⟩, 
   ⟨(some 10), (.load1 (.tmp 9)), none⟩, 
   ⟨(some 11), (.callF 42 [(.tmp 10), (.const (.int .i64 2147483647))]), none⟩, 
   ⟨(some 6), (.mv (.tmp 11)), none⟩, 
   ⟨(some 12), (.extract (.tmp 6) 0), none⟩, 
   ⟨(some 13), (.extract (.tmp 6) 1), none⟩, 
   ⟨(some 14), (.extract (.tmp 6) 2), none⟩, 
   ⟨(some 3), (.mv (.tmp 12)), none⟩, 
   ⟨(some 4), (.mv (.tmp 13)), none⟩, 
   ⟨(some 5), (.mv (.tmp 14)), none⟩])
  (.seq (.ops [
    ⟨(some 15), (.mv (.tmp 5)), none⟩, 
    ⟨(some 16), (.bin .eql (.tmp 15) (.const (.int .i64 0))), none⟩, 
    ⟨(some 17), (.mv (.tmp 5)), none⟩, 
    ⟨(some 18), (.callF 31 [(.tmp 16), (.tmp 17)]), none⟩])
   (.seq (.ops [
     ⟨(some 19), (.mv (.tmp 3)), none⟩, 
     ⟨(some 20), (.callF 38 [(.tmp 19)]), none⟩, 
     ⟨(some 21), (.callF 31 [(.tmp 20), (.const (.int .i64 22))]), none⟩])
    (.seq (.ops [
      ⟨(some 22), (.mv (.tmp 0)), none⟩, 
      ⟨(some 23), (.mv (.tmp 0)), none⟩, 
      ⟨(some 24), (.nilCheck (.tmp 23)), none⟩, 
      ⟨(some 25), (.fieldAddr 0 (.tmp 24)), none⟩, 
      ⟨(some 26), (.load1 (.tmp 25)), none⟩, 
      ⟨(some 27), (.mv (.tmp 4)), none⟩, 
      ⟨(some 28), (.sliceSl 1 (.tmp 26) (some (.tmp 27)) none none), none⟩, 
      ⟨(some 29), (.nilCheck (.tmp 22)), none⟩, 
      ⟨(some 30), (.fieldAddr 0 (.tmp 29)), none⟩, 
      ⟨none, (.store1 (.tmp 30) (.tmp 28)), none⟩])
     (.seq (.ops [
       ⟨(some 31), (.mv (.tmp 3)), none⟩, 
       ⟨(some 2), (.mv (.tmp 31)), none⟩])
      .ret))))))
theorem c33 {args : Array Value} {h : Heap} {R : Ending → Heap → Prop} (ha : args.size ≤ 32) (hh : aexec Try.prog ac33 (abody [(.slot 2)] R) ⟨initFr args.toList, []⟩ h) : HCalls Try.prog 33 args h R :=
  hcalls_of Try.func33 rfl rfl (by kernel_rfl) (by kernel_rfl) ha hh
/-- 34: (*credenza/codec.reader).many -/
def ac34 : ACode :=
 (.seq (.ops [
  ⟨(some 4), (.new 25 [(.int .i64 0), (.int .i64 0), (.string ⟨#[]⟩), (.slice none 0 0), (.slice none 0 0)]), none⟩])
 (.seq (.ops [
   ⟨(some 9), (.build [(.int .i64 0), (.int .i64 0), (.string ⟨#[]⟩), (.slice none 0 0), (.slice none 0 0)] [(0, 1, (.const (.int .i64 5)))]), none⟩, 
   ⟨(some 5), (.new 25 [(.int .i64 0), (.int .i64 0), (.string ⟨#[]⟩), (.slice none 0 0), (.slice none 0 0)]), none⟩, 
   ⟨none, (.storeN 5 (.tmp 5) (.tmp 9)), none⟩])
  (.seq (.seq (.ops [
     ⟨(some 10), (.mv (.tmp 1)), none⟩])
    (.cond (.tmp 10)
     (.ops [
      ⟨(some 11), (.fieldAddr 0 (.tmp 5)), none⟩, 
      ⟨none, (.store1 (.tmp 11) (.const (.int .i64 6))), none⟩])
     .skip))
   (.seq (.ops [
     ⟨(some 12), (.mv (.tmp 0)), none⟩, 
     ⟨(some 13), (.callF 32 [(.tmp 12)]), none⟩, 
     ⟨(some 6), (.mv (.tmp 13)), none⟩])
    (.seq (.ops [
      ⟨(some 14), (.mv (.tmp 0)), none⟩, 
      ⟨(some 15), (.nilCheck (.tmp 14)), none⟩, 
      ⟨(some 16), (.fieldAddr 1 (.tmp 15)), none⟩, 
      ⟨(some 17), (.load1 (.tmp 16)), none⟩, 
      ⟨(some 18), (.bin .add (.tmp 17) (.const (.int .i64 1))), none⟩, 
      ⟨(some 19), (.nilCheck (.tmp 14)), none⟩, 
      ⟨(some 20), (.fieldAddr 1 (.tmp 19)), none⟩, 
      ⟨none, (.store1 (.tmp 20) (.tmp 18)), none⟩])
     (.seq (.block 0
       (.loop
        (.seq (.seq (.ops [
           ⟨(some 21), (.mv (.tmp 6)), none⟩, 
           ⟨(some 22), (.bin .gtr (.tmp 21) (.const (.int .u64 0))), none⟩])
          (.cond (.tmp 22)
           .skip
           (.exit 0)))
         (.seq (.block 1
           (.seq (.seq (.ops [
              ⟨(some 25), (.mv (.tmp 1)), none⟩])
             (.cond (.tmp 25)
              (.seq (.ops [
                ⟨(some 26), (.mv (.tmp 0)), none⟩, 
                ⟨(some 27), (.callF 33 [(.tmp 26)]), none⟩, 
                ⟨(some 7), (.mv (.tmp 27)), none⟩])
               (.seq (.ops [
                 ⟨(some 28), (.fieldAddr 3 (.tmp 5)), none⟩, 
                 ⟨(some 29), (.load1 (.tmp 28)), none⟩, 
                 ⟨(some 30), (.mv (.tmp 7)), none⟩, 
                 ⟨(some 31), (.callF 43 [(.tmp 29), (.tmp 30)]), none⟩, 
                 ⟨(some 32), (.un .not (.tmp 31)), none⟩, 
                 ⟨(some 33), (.callF 31 [(.tmp 32), (.const (.int .i64 22))]), none⟩])
                (.ops [
                 ⟨(some 34), (.fieldAddr 3 (.tmp 5)), none⟩, 
                 ⟨(some 35), (.load1 (.tmp 34)), none⟩, 
                 ⟨(some 36), (.mv (.tmp 7)), none⟩, 
                 ⟨(some 37), (.buildSlice 9 1 [(.string ⟨#[]⟩)] [(0, 1, (.tmp 36))]), none⟩, 
                 ⟨(some 38), (.append 9 1 16 [(.string ⟨#[]⟩)] (.tmp 35) (.tmp 37)), none⟩, 
                 ⟨(some 39), (.fieldAddr 3 (.tmp 5)), none⟩, 
                 ⟨none, (.store1 (.tmp 39) (.tmp 38)), none⟩])))
              .skip))
            (.seq (.ops [
              ⟨(some 40), (.mv (.tmp 0)), none⟩, 
              ⟨(some 41), (.callF 22 [(.tmp 40)]), none⟩, 
              ⟨(some 8), (.new 25 [(.int .i64 0), (.int .i64 0), (.string ⟨#[]⟩), (.slice none 0 0), (.slice none 0 0)]), none⟩, 
              ⟨none, (.storeN 5 (.tmp 8) (.tmp 41)), none⟩])
             (.ops [
              ⟨(some 42), (.fieldAddr 4 (.tmp 5)), none⟩, 
              ⟨(some 43), (.load1 (.tmp 42)), none⟩, 
              ⟨(some 44), (.loadN 5 (.tmp 8)), none⟩, 
              ⟨(some 45), (.buildSlice 25 1 [(.int .i64 0), (.int .i64 0), (.string ⟨#[]⟩), (.slice none 0 0), (.slice none 0 0)] [(0, 5, (.tmp 44))]), none⟩, 
              ⟨(some 46), (.append 25 5 80 [(.int .i64 0), (.int .i64 0), (.string ⟨#[]⟩), (.slice none 0 0), (.slice none 0 0)] (.tmp 43) (.tmp 45)), none⟩, 
              ⟨(some 47), (.fieldAddr 4 (.tmp 5)), none⟩, 
              ⟨none, (.store1 (.tmp 47) (.tmp 46)), none⟩]))))
          (.ops [
           ⟨(some 23), (.mv (.tmp 6)), none⟩, 
           ⟨(some 24), (.bin .sub (.tmp 23) (.const (.int .u64 1))), none⟩, 
           ⟨(some 6), (.mv (.tmp 24)), none⟩])))))
      (.seq (.ops [
        ⟨(some 48), (.mv (.tmp 0)), none⟩, 
        ⟨(some 49), (.nilCheck (.tmp 48)), none⟩, 
        ⟨(some 50), (.fieldAddr 1 (.tmp 49)), none⟩, 
        ⟨(some 51), (.load1 (.tmp 50)), none⟩, 
        ⟨(some 52), (.bin .sub (.tmp 51) (.const (.int .i64 1))), none⟩, 
        ⟨(some 53), (.nilCheck (.tmp 48)), none⟩, 
        ⟨(some 54), (.fieldAddr 1 (.tmp 53)), none⟩, 
        ⟨none, (.store1 (.tmp 54) (.tmp 52)), none⟩])
       (.seq (.ops [
         ⟨(some 55), (.loadN 5 (.tmp 5)), none⟩, 
         ⟨none, (.storeN 5 (.tmp 4) (.tmp 55)), none⟩])
        .ret))))))))
theorem c34 {args : Array Value} {h : Heap} {R : Ending → Heap → Prop} (ha : args.size ≤ 56) (hh : aexec Try.prog ac34 (abody [(.cellN 4 5)] R) ⟨initFr args.toList, []⟩ h) : HCalls Try.prog 34 args h R :=
  hcalls_of Try.func34 rfl rfl (by kernel_rfl) (by kernel_rfl) ha hh
/-- 35: credenza/credenzaref04.number -/
def ac35 : ACode :=
 (.seq (.ops [
  ⟨(some 4), (.new 25 [(.int .i64 0), (.int .i64 0), (.string ⟨#[]⟩), (.slice none 0 0), (.slice none 0 0)]), none⟩, 
  ⟨(some 5), (.mv (.const (.int .i64 0))), none⟩, 
  ⟨(some 6), (.mv (.const (.int .i64 0))), none⟩])
 (.seq (.ops [
   ⟨(some 12), (.mv (.tmp 1)), none⟩, 
   ⟨(some 13), (.callF 44 [(.tmp 12)]), none⟩, 
   ⟨(some 11), (.mv (.tmp 13)), none⟩, 
   ⟨(some 14), (.extract (.tmp 11) 0), none⟩, 
   ⟨(some 15), (.extract (.tmp 11) 1), none⟩, 
   ⟨(some 16), (.extract (.tmp 11) 2), none⟩, 
   ⟨(some 7), (.mv (.tmp 14)), none⟩, 
   ⟨(some 8), (.mv (.tmp 15)), none⟩, 
   ⟨(some 9), (.mv (.tmp 16)), none⟩])
  (.seq (.seq (.ops [
     ⟨(some 17), (.mv (.tmp 9)), none⟩, 
     ⟨(some 18), (.bin .neq (.tmp 17) (.const (.int .i64 0))), none⟩])
    (.cond (.tmp 18)
     (.seq (.ops [
       ⟨(some 19), (.build [(.int .i64 0), (.int .i64 0), (.string ⟨#[]⟩), (.slice none 0 0), (.slice none 0 0)] []), none⟩, 
       ⟨(some 20), (.mv (.tmp 9)), none⟩, 
       ⟨none, (.storeN 5 (.tmp 4) (.tmp 19)), none⟩, 
       ⟨(some 5), (.mv (.const (.int .i64 0))), none⟩, 
       ⟨(some 6), (.mv (.tmp 20)), none⟩])
      .ret)
     .skip))
   (.seq (.seq (.ops [
      ⟨(some 21), (.mv (.tmp 7)), none⟩, 
      ⟨(some 22), (.bin .gtr (.tmp 21) (.const (.int .u64 9007199254740991))), none⟩, 
      ⟨(some 23), (.mv (.tmp 22)), none⟩, 
      ⟨(some 24), (.mv (.tmp 0)), (some (23, false))⟩, 
      ⟨(some 25), (.bin .eql (.tmp 24) (.const (.int .u8 5))), (some (23, false))⟩, 
      ⟨(some 26), (.mv (.tmp 25)), (some (23, false))⟩, 
      ⟨(some 27), (.mv (.tmp 7)), (some (26, true))⟩, 
      ⟨(some 28), (.bin .gtr (.tmp 27) (.const (.int .u64 9007199254740990))), (some (26, true))⟩, 
      ⟨(some 29), (.pick (.tmp 26) (.tmp 28) (.const (.bool false))), (some (23, false))⟩, 
      ⟨(some 30), (.pick (.tmp 23) (.const (.bool true)) (.tmp 29)), none⟩])
     (.cond (.tmp 30)
      (.seq (.ops [
        ⟨(some 31), (.build [(.int .i64 0), (.int .i64 0), (.string ⟨#[]⟩), (.slice none 0 0), (.slice none 0 0)] []), none⟩, 
        ⟨none, (.storeN 5 (.tmp 4) (.tmp 31)), none⟩, 
        ⟨(some 5), (.mv (.const (.int .i64 0))), none⟩, 
        ⟨(some 6), (.mv (.const (.int .i64 22))), none⟩])
       .ret)
      .skip))
    (.seq (.ops [
      ⟨(some 32), (.mv (.tmp 7)), none⟩, 
      ⟨(some 33), (.convInt .i64 (.tmp 32)), none⟩, 
      ⟨(some 34), (.build [(.int .i64 0), (.int .i64 0), (.string ⟨#[]⟩), (.slice none 0 0), (.slice none 0 0)] [(0, 1, (.const (.int .i64 3))), (1, 1, (.tmp 33))]), none⟩, 
      ⟨(some 10), (.new 25 [(.int .i64 0), (.int .i64 0), (.string ⟨#[]⟩), (.slice none 0 0), (.slice none 0 0)]), none⟩, 
      ⟨none, (.storeN 5 (.tmp 10) (.tmp 34)), none⟩])
     (.seq (.seq (.ops [
        ⟨(some 35), (.mv (.tmp 0)), none⟩, 
        ⟨(some 36), (.bin .eql (.tmp 35) (.const (.int .u8 5))), none⟩])
       (.cond (.tmp 36)
        (.ops [
         ⟨(some 37), (.fieldAddr 1 (.tmp 10)), none⟩, 
         ⟨(some 38), (.load1 (.tmp 37)), none⟩, 
         ⟨(some 39), (.bin .sub (.const (.int .i64 (-1))) (.tmp 38)), none⟩, 
         ⟨(some 40), (.fieldAddr 1 (.tmp 10)), none⟩, 
         ⟨none, (.store1 (.tmp 40) (.tmp 39)), none⟩])
        .skip))
      (.seq (.ops [
        ⟨(some 41), (.loadN 5 (.tmp 10)), none⟩, 
        ⟨(some 42), (.mv (.tmp 8)), none⟩, 
        ⟨none, (.storeN 5 (.tmp 4) (.tmp 41)), none⟩, 
        ⟨(some 5), (.mv (.tmp 42)), none⟩, 
        ⟨(some 6), (.mv (.const (.int .i64 0))), none⟩])
       .ret)))))))
theorem c35 {args : Array Value} {h : Heap} {R : Ending → Heap → Prop} (ha : args.size ≤ 43) (hh : aexec Try.prog ac35 (abody [(.cellN 4 5), (.slot 5), (.slot 6)] R) ⟨initFr args.toList, []⟩ h) : HCalls Try.prog 35 args h R :=
  hcalls_of Try.func35 rfl rfl (by kernel_rfl) (by kernel_rfl) ha hh
/-- 36: credenza/credenzaref04.text -/
def ac36 : ACode :=
 (.seq (.ops [
  ⟨(some 2), (.mv (.const (.string ⟨#[]⟩))), none⟩, 
  ⟨(some 3), (.mv (.const (.int .i64 0))), none⟩, 
  ⟨(some 4), (.mv (.const (.int .i64 0))), none⟩])
 (.seq (.ops [
   ⟨(some 9), (.mv (.tmp 0)), none⟩, 
   ⟨(some 10), (.callF 45 [(.tmp 9), (.const (.int .i64 2147483647))]), none⟩, 
   ⟨(some 8), (.mv (.tmp 10)), none⟩, 
   ⟨(some 11), (.extract (.tmp 8) 0), none⟩, 
   ⟨(some 12), (.extract (.tmp 8) 1), none⟩, 
   ⟨(some 13), (.extract (.tmp 8) 2), none⟩, 
   ⟨(some 5), (.mv (.tmp 11)), none⟩, 
   ⟨(some 6), (.mv (.tmp 12)), none⟩, 
   ⟨(some 7), (.mv (.tmp 13)), none⟩])
  (.seq (.seq (.ops [
     ⟨(some 14), (.mv (.tmp 7)), none⟩, 
     ⟨(some 15), (.bin .eql (.tmp 14) (.const (.int .i64 0))), none⟩, 
     ⟨(some 16), (.mv (.tmp 15)), none⟩, 
     ⟨(some 17), (.mv (.tmp 5)), (some (16, true))⟩, 
     ⟨(some 18), (.callF 46 [(.tmp 17)]), (some (16, true))⟩, 
     ⟨(some 19), (.un .not (.tmp 18)), (some (16, true))⟩, 
     ⟨(some 20), (.pick (.tmp 16) (.tmp 19) (.const (.bool false))), none⟩])
    (.cond (.tmp 20)
     (.seq (.ops [
       ⟨(some 2), (.mv (.const (.string ⟨#[]⟩))), none⟩, 
       ⟨(some 3), (.mv (.const (.int .i64 0))), none⟩, 
       ⟨(some 4), (.mv (.const (.int .i64 22))), none⟩])
      .ret)
     .skip))
   (.seq (.ops [
     ⟨(some 21), (.mv (.tmp 5)), none⟩, 
     ⟨(some 22), (.mv (.tmp 6)), none⟩, 
     ⟨(some 23), (.mv (.tmp 7)), none⟩, 
     ⟨(some 2), (.mv (.tmp 21)), none⟩, 
     ⟨(some 3), (.mv (.tmp 22)), none⟩, 
     ⟨(some 4), (.mv (.tmp 23)), none⟩])
    .ret))))
theorem c36 {args : Array Value} {h : Heap} {R : Ending → Heap → Prop} (ha : args.size ≤ 24) (hh : aexec Try.prog ac36 (abody [(.slot 2), (.slot 3), (.slot 4)] R) ⟨initFr args.toList, []⟩ h) : HCalls Try.prog 36 args h R :=
  hcalls_of Try.func36 rfl rfl (by kernel_rfl) (by kernel_rfl) ha hh
/-- 37: credenza/credenzaref04.many -/
def ac37 : ACode :=
 (.seq (.ops [
  ⟨(some 3), (.box 25 (.tmp 0)), none⟩, 
  ⟨(some 6), (.new 25 [(.int .i64 0), (.int .i64 0), (.string ⟨#[]⟩), (.slice none 0 0), (.slice none 0 0)]), none⟩, 
  ⟨(some 7), (.mv (.const (.int .i64 0))), none⟩, 
  ⟨(some 8), (.mv (.const (.int .i64 0))), none⟩])
 (.seq (.ops [
   ⟨(some 20), (.mv (.tmp 1)), none⟩, 
   ⟨(some 21), (.callF 44 [(.tmp 20)]), none⟩, 
   ⟨(some 19), (.mv (.tmp 21)), none⟩, 
   ⟨(some 22), (.extract (.tmp 19) 0), none⟩, 
   ⟨(some 23), (.extract (.tmp 19) 1), none⟩, 
   ⟨(some 24), (.extract (.tmp 19) 2), none⟩, 
   ⟨(some 9), (.mv (.tmp 22)), none⟩, 
   ⟨(some 10), (.mv (.tmp 23)), none⟩, 
   ⟨(some 11), (.mv (.tmp 24)), none⟩])
  (.seq (.seq (.ops [
     ⟨(some 25), (.mv (.tmp 11)), none⟩, 
     ⟨(some 26), (.bin .neq (.tmp 25) (.const (.int .i64 0))), none⟩])
    (.cond (.tmp 26)
     (.seq (.ops [
       ⟨(some 27), (.build [(.int .i64 0), (.int .i64 0), (.string ⟨#[]⟩), (.slice none 0 0), (.slice none 0 0)] []), none⟩, 
       ⟨(some 28), (.mv (.tmp 11)), none⟩, 
       ⟨none, (.storeN 5 (.tmp 6) (.tmp 27)), none⟩, 
       ⟨(some 7), (.mv (.const (.int .i64 0))), none⟩, 
       ⟨(some 8), (.mv (.tmp 28)), none⟩])
      .ret)
     .skip))
   (.seq (.seq (.ops [
      ⟨(some 12), (.mv (.const (.int .u64 0))), none⟩])
     (.block 0
      (.loop
       (.seq (.seq (.ops [
          ⟨(some 29), (.mv (.tmp 12)), none⟩, 
          ⟨(some 30), (.mv (.tmp 9)), none⟩, 
          ⟨(some 31), (.bin .lss (.tmp 29) (.tmp 30)), none⟩])
         (.cond (.tmp 31)
          .skip
          (.exit 0)))
        (.seq (.block 1
          (.seq (.seq (.ops [
             ⟨(some 34), (.fieldAddr 0 (.tmp 3)), none⟩, 
             ⟨(some 35), (.load1 (.tmp 34)), none⟩, 
             ⟨(some 36), (.bin .eql (.tmp 35) (.const (.int .i64 6))), none⟩])
            (.cond (.tmp 36)
             (.seq (.ops [
               ⟨(some 38), (.mv (.tmp 1)), none⟩, 
               ⟨(some 39), (.mv (.tmp 10)), none⟩, 
               ⟨(some 40), (.sliceSl 1 (.tmp 38) (some (.tmp 39)) none none), none⟩, 
               ⟨(some 41), (.callF 36 [(.tmp 40)]), none⟩, 
               ⟨(some 37), (.mv (.tmp 41)), none⟩, 
               ⟨(some 42), (.extract (.tmp 37) 0), none⟩, 
               ⟨(some 43), (.extract (.tmp 37) 1), none⟩, 
               ⟨(some 44), (.extract (.tmp 37) 2), none⟩, 
               ⟨(some 13), (.mv (.tmp 42)), none⟩, 
               ⟨(some 14), (.mv (.tmp 43)), none⟩, 
               ⟨(some 15), (.mv (.tmp 44)), none⟩])
              (.seq (.seq (.ops [
                 ⟨(some 45), (.mv (.tmp 15)), none⟩, 
                 ⟨(some 46), (.bin .neq (.tmp 45) (.const (.int .i64 0))), none⟩])
                (.cond (.tmp 46)
                 (.seq (.ops [
                   ⟨(some 47), (.build [(.int .i64 0), (.int .i64 0), (.string ⟨#[]⟩), (.slice none 0 0), (.slice none 0 0)] []), none⟩, 
                   ⟨(some 48), (.mv (.tmp 15)), none⟩, 
                   ⟨none, (.storeN 5 (.tmp 6) (.tmp 47)), none⟩, 
                   ⟨(some 7), (.mv (.const (.int .i64 0))), none⟩, 
                   ⟨(some 8), (.mv (.tmp 48)), none⟩])
                  .ret)
                 .skip))
               (.seq (.seq (.ops [
                  ⟨(some 49), (.fieldAddr 3 (.tmp 3)), none⟩, 
                  ⟨(some 50), (.load1 (.tmp 49)), none⟩, 
                  ⟨(some 51), (.mv (.tmp 13)), none⟩, 
                  ⟨(some 52), (.callF 47 [(.tmp 50), (.tmp 51)]), none⟩])
                 (.cond (.tmp 52)
                  (.seq (.ops [
                    ⟨(some 53), (.build [(.int .i64 0), (.int .i64 0), (.string ⟨#[]⟩), (.slice none 0 0), (.slice none 0 0)] []), none⟩, 
                    ⟨none, (.storeN 5 (.tmp 6) (.tmp 53)), none⟩, 
                    ⟨(some 7), (.mv (.const (.int .i64 0))), none⟩, 
                    ⟨(some 8), (.mv (.const (.int .i64 22))), none⟩])
                   .ret)
                  .skip))
                (.seq (.ops [
                  ⟨(some 54), (.fieldAddr 3 (.tmp 3)), none⟩, 
                  ⟨(some 55), (.load1 (.tmp 54)), none⟩, 
                  ⟨(some 56), (.mv (.tmp 13)), none⟩, 
                  ⟨(some 57), (.buildSlice 9 1 [(.string ⟨#[]⟩)] [(0, 1, (.tmp 56))]), none⟩, 
                  ⟨(some 58), (.append 9 1 16 [(.string ⟨#[]⟩)] (.tmp 55) (.tmp 57)), none⟩, 
                  ⟨(some 59), (.fieldAddr 3 (.tmp 3)), none⟩, 
                  ⟨none, (.store1 (.tmp 59) (.tmp 58)), none⟩])
                 (.ops [
                  ⟨(some 60), (.mv (.tmp 10)), none⟩, 
                  ⟨(some 61), (.mv (.tmp 14)), none⟩, 
                  ⟨(some 62), (.bin .add (.tmp 60) (.tmp 61)), none⟩, 
                  ⟨(some 10), (.mv (.tmp 62)), none⟩])))))
             .skip))
           (.seq (.ops [
             ⟨(some 64), (.mv (.tmp 1)), none⟩, 
             ⟨(some 65), (.mv (.tmp 10)), none⟩, 
             ⟨(some 66), (.sliceSl 1 (.tmp 64) (some (.tmp 65)) none none), none⟩, 
             ⟨(some 67), (.mv (.tmp 2)), none⟩, 
             ⟨(some 68), (.bin .add (.tmp 67) (.const (.int .i64 1))), none⟩, 
             ⟨(some 69), (.callF 23 [(.tmp 66), (.tmp 68)]), none⟩, 
             ⟨(some 63), (.mv (.tmp 69)), none⟩, 
             ⟨(some 70), (.extract (.tmp 63) 0), none⟩, 
             ⟨(some 71), (.extract (.tmp 63) 1), none⟩, 
             ⟨(some 72), (.extract (.tmp 63) 2), none⟩, 
             ⟨(some 16), (.new 25 [(.int .i64 0), (.int .i64 0), (.string ⟨#[]⟩), (.slice none 0 0), (.slice none 0 0)]), none⟩, 
             ⟨none, (.storeN 5 (.tmp 16) (.tmp 70)), none⟩, 
             ⟨(some 17), (.mv (.tmp 71)), none⟩, 
             ⟨(some 18), (.mv (.tmp 72)), none⟩])
            (.seq (.seq (.ops [
               ⟨(some 73), (.mv (.tmp 18)), none⟩, 
               ⟨(some 74), (.bin .neq (.tmp 73) (.const (.int .i64 0))), none⟩])
              (.cond (.tmp 74)
               (.seq (.ops [
                 ⟨(some 75), (.build [(.int .i64 0), (.int .i64 0), (.string ⟨#[]⟩), (.slice none 0 0), (.slice none 0 0)] []), none⟩, 
                 ⟨(some 76), (.mv (.tmp 18)), none⟩, 
                 ⟨none, (.storeN 5 (.tmp 6) (.tmp 75)), none⟩, 
                 ⟨(some 7), (.mv (.const (.int .i64 0))), none⟩, 
                 ⟨(some 8), (.mv (.tmp 76)), none⟩])
                .ret)
               .skip))
             (.seq (.ops [
               ⟨(some 77), (.fieldAddr 4 (.tmp 3)), none⟩, 
               ⟨(some 78), (.load1 (.tmp 77)), none⟩, 
               ⟨(some 79), (.loadN 5 (.tmp 16)), none⟩, 
               ⟨(some 80), (.buildSlice 25 1 [(.int .i64 0), (.int .i64 0), (.string ⟨#[]⟩), (.slice none 0 0), (.slice none 0 0)] [(0, 5, (.tmp 79))]), none⟩, 
               ⟨(some 81), (.append 25 5 80 [(.int .i64 0), (.int .i64 0), (.string ⟨#[]⟩), (.slice none 0 0), (.slice none 0 0)] (.tmp 78) (.tmp 80)), none⟩, 
               ⟨(some 82), (.fieldAddr 4 (.tmp 3)), none⟩, 
               ⟨none, (.store1 (.tmp 82) (.tmp 81)), none⟩])
              (.ops [
               ⟨(some 83), (.mv (.tmp 10)), none⟩, 
               ⟨(some 84), (.mv (.tmp 17)), none⟩, 
               ⟨(some 85), (.bin .add (.tmp 83) (.tmp 84)), none⟩, 
               ⟨(some 10), (.mv (.tmp 85)), none⟩]))))))
         (.ops [
          ⟨(some 32), (.mv (.tmp 12)), none⟩, 
          ⟨(some 33), (.bin .add (.tmp 32) (.const (.int .u64 1))), none⟩, 
          ⟨(some 12), (.mv (.tmp 33)), none⟩]))))))
    (.seq (.ops [
      ⟨(some 86), (.loadN 5 (.tmp 3)), none⟩, 
      ⟨(some 87), (.mv (.tmp 10)), none⟩, 
      ⟨none, (.storeN 5 (.tmp 6) (.tmp 86)), none⟩, 
      ⟨(some 7), (.mv (.tmp 87)), none⟩, 
      ⟨(some 8), (.mv (.const (.int .i64 0))), none⟩])
     .ret)))))
theorem c37 {args : Array Value} {h : Heap} {R : Ending → Heap → Prop} (ha : args.size ≤ 88) (hh : aexec Try.prog ac37 (abody [(.cellN 6 5), (.slot 7), (.slot 8)] R) ⟨initFr args.toList, []⟩ h) : HCalls Try.prog 37 args h R :=
  hcalls_of Try.func37 rfl rfl (by kernel_rfl) (by kernel_rfl) ha hh
/-- 38: credenza/units.Check -/
def ac38 : ACode :=
 (.seq (.ops [
  ⟨(some 2), (.mv (.const (.bool false))), none⟩])
 (.seq (.ops [
   ⟨(some 3), (.mv (.tmp 0)), none⟩, 
   ⟨(some 4), (.lenStr (.tmp 3)), none⟩, 
   ⟨(some 5), (.bin .and (.tmp 4) (.const (.int .i64 1))), none⟩, 
   ⟨(some 6), (.bin .eql (.tmp 5) (.const (.int .i64 0))), none⟩, 
   ⟨(some 2), (.mv (.tmp 6)), none⟩])
  .ret))
theorem c38 {args : Array Value} {h : Heap} {R : Ending → Heap → Prop} (ha : args.size ≤ 7) (hh : aexec Try.prog ac38 (abody [(.slot 2)] R) ⟨initFr args.toList, []⟩ h) : HCalls Try.prog 38 args h R :=
  hcalls_of Try.func38 rfl rfl (by kernel_rfl) (by kernel_rfl) ha hh
/-- 39: credenza/data.names -/
def ac39 : ACode :=
 (.seq (.ops [
  ⟨(some 1), (.box 25 (.tmp 0)), none⟩, 
  ⟨(some 2), (.mv (.const (.bool false))), none⟩])
 (.seq (.ops [
   ⟨(some 6), .mkMap, none⟩, 
   ⟨(some 3), (.mv (.tmp 6)), none⟩])
  (.seq (.seq (.ops [
     ⟨(some 7), (.fieldAddr 3 (.tmp 1)), none⟩, 
     ⟨(some 8), (.load1 (.tmp 7)), none⟩, 
     ⟨(some 9), (.lenSl (.tmp 8)), none⟩, 
     ⟨(some 10), (.mv (.const (.int .i64 0))), none⟩])
    (.block 0
     (.loop
      (.seq (.ops [
        ⟨(some 11), (.bin .lss (.tmp 10) (.tmp 9)), none⟩])
       (.seq (.cond (.tmp 11)
         .skip
         (.exit 0))
        (.seq (.block 1
          (.seq (.ops [
            ⟨(some 12), (.idxSl 1 (.tmp 8) (.tmp 10)), none⟩, 
            ⟨(some 13), (.load1 (.tmp 12)), none⟩, 
            ⟨(some 5), (.mv (.tmp 13)), none⟩])
           (.seq (.seq (.ops [
              ⟨(some 14), (.mv (.tmp 5)), none⟩, 
              ⟨(some 15), (.callF 38 [(.tmp 14)]), none⟩, 
              ⟨(some 16), (.un .not (.tmp 15)), none⟩])
             (.cond (.tmp 16)
              (.seq (.ops [
                ⟨(some 2), (.mv (.const (.bool false))), none⟩])
               .ret)
              .skip))
            (.ops [
             ⟨(some 17), (.mv (.tmp 3)), none⟩, 
             ⟨(some 18), (.mv (.tmp 5)), none⟩, 
             ⟨(some 19), (.lookMap .string (.int .i64 0) false (.tmp 17) (.tmp 18)), none⟩, 
             ⟨(some 20), (.bin .add (.tmp 19) (.const (.int .i64 1))), none⟩, 
             ⟨none, (.setMap .string (.tmp 17) (.tmp 18) (.tmp 20)), none⟩]))))
         (.ops [
          ⟨(some 21), (.bin .add (.tmp 10) (.const (.int .i64 1))), none⟩, 
          ⟨(some 10), (.mv (.tmp 21)), none⟩])))))))
   (.seq (.ops [
     ⟨(some 22), (.mv (.tmp 3)), none⟩, 
     ⟨(some 23), (.lenMap (.tmp 22)), none⟩, 
     ⟨(some 24), (.fieldAddr 3 (.tmp 1)), none⟩, 
     ⟨(some 25), (.load1 (.tmp 24)), none⟩, 
     ⟨(some 26), (.lenSl (.tmp 25)), none⟩, 
     ⟨(some 27), (.bin .eql (.tmp 23) (.tmp 26)), none⟩, 
     ⟨(some 28), (.mv (.tmp 27)), none⟩, 
     ⟨(some 29), (.fieldAddr 3 (.tmp 1)), (some (28, true))⟩, 
     ⟨(some 30), (.load1 (.tmp 29)), (some (28, true))⟩, 
     ⟨(some 31), (.lenSl (.tmp 30)), (some (28, true))⟩, 
     ⟨(some 32), (.fieldAddr 4 (.tmp 1)), (some (28, true))⟩, 
     ⟨(some 33), (.load1 (.tmp 32)), (some (28, true))⟩, 
     ⟨(some 34), (.lenSl (.tmp 33)), (some (28, true))⟩, 
     ⟨(some 35), (.bin .eql (.tmp 31) (.tmp 34)), (some (28, true))⟩, 
     ⟨(some 36), (.pick (.tmp 28) (.tmp 35) (.const (.bool false))), none⟩, 
     ⟨(some 2), (.mv (.tmp 36)), none⟩])
    .ret))))
theorem c39 {args : Array Value} {h : Heap} {R : Ending → Heap → Prop} (ha : args.size ≤ 37) (hh : aexec Try.prog ac39 (abody [(.slot 2)] R) ⟨initFr args.toList, []⟩ h) : HCalls Try.prog 39 args h R :=
  hcalls_of Try.func39 rfl rfl (by kernel_rfl) (by kernel_rfl) ha hh
/-- 40: credenza/credenzaref03.own -/
def ac40 : ACode :=
 (.seq (.ops [
  ⟨(some 1), (.box 25 (.tmp 0)), none⟩, 
  ⟨(some 2), (.mv (.const (.bool false))), none⟩])
 (.seq (.seq (.ops [
    ⟨(some 3), (.fieldAddr 0 (.tmp 1)), none⟩, 
    ⟨(some 4), (.load1 (.tmp 3)), none⟩])
   (.block 0
    (.seq (.seq (.ops [
       ⟨(some 6), (.bin .eql (.tmp 4) (.const (.int .i64 0))), none⟩, 
       ⟨(some 5), (.mv (.tmp 6)), none⟩])
      (.cond (.tmp 5)
       .skip
       (.ops [
        ⟨(some 7), (.bin .eql (.tmp 4) (.const (.int .i64 1))), none⟩, 
        ⟨(some 5), (.mv (.tmp 7)), none⟩])))
     (.cond (.tmp 5)
      (.seq (.ops [
        ⟨(some 8), (.fieldAddr 1 (.tmp 1)), none⟩, 
        ⟨(some 9), (.load1 (.tmp 8)), none⟩, 
        ⟨(some 10), (.bin .eql (.tmp 9) (.const (.int .i64 0))), none⟩, 
        ⟨(some 11), (.mv (.tmp 10)), none⟩, 
        ⟨(some 12), (.fieldAddr 2 (.tmp 1)), (some (11, true))⟩, 
        ⟨(some 13), (.load1 (.tmp 12)), (some (11, true))⟩, 
        ⟨(some 14), (.bin .eql (.tmp 13) (.const (.string ⟨#[]⟩))), (some (11, true))⟩, 
        ⟨(some 15), (.pick (.tmp 11) (.tmp 14) (.const (.bool false))), none⟩, 
        ⟨(some 16), (.mv (.tmp 15)), none⟩, 
        ⟨(some 17), (.fieldAddr 3 (.tmp 1)), (some (16, true))⟩, 
        ⟨(some 18), (.load1 (.tmp 17)), (some (16, true))⟩, 
        ⟨(some 19), (.lenSl (.tmp 18)), (some (16, true))⟩, 
        ⟨(some 20), (.bin .eql (.tmp 19) (.const (.int .i64 0))), (some (16, true))⟩, 
        ⟨(some 21), (.pick (.tmp 16) (.tmp 20) (.const (.bool false))), none⟩, 
        ⟨(some 22), (.mv (.tmp 21)), none⟩, 
        ⟨(some 23), (.fieldAddr 4 (.tmp 1)), (some (22, true))⟩, 
        ⟨(some 24), (.load1 (.tmp 23)), (some (22, true))⟩, 
        ⟨(some 25), (.lenSl (.tmp 24)), (some (22, true))⟩, 
        ⟨(some 26), (.bin .eql (.tmp 25) (.const (.int .i64 0))), (some (22, true))⟩, 
        ⟨(some 27), (.pick (.tmp 22) (.tmp 26) (.const (.bool false))), none⟩, 
        ⟨(some 2), (.mv (.tmp 27)), none⟩])
       .ret)
      (.seq (.ops [
        ⟨(some 29), (.bin .eql (.tmp 4) (.const (.int .i64 2))), none⟩, 
        ⟨(some 28), (.mv (.tmp 29)), none⟩])
       (.cond (.tmp 28)
        (.seq (.ops [
          ⟨(some 30), (.fieldAddr 1 (.tmp 1)), none⟩, 
          ⟨(some 31), (.load1 (.tmp 30)), none⟩, 
          ⟨(some 32), (.bin .eql (.tmp 31) (.const (.int .i64 0))), none⟩, 
          ⟨(some 33), (.mv (.tmp 32)), none⟩, 
          ⟨(some 34), (.fieldAddr 1 (.tmp 1)), (some (33, false))⟩, 
          ⟨(some 35), (.load1 (.tmp 34)), (some (33, false))⟩, 
          ⟨(some 36), (.bin .eql (.tmp 35) (.const (.int .i64 1))), (some (33, false))⟩, 
          ⟨(some 37), (.pick (.tmp 33) (.const (.bool true)) (.tmp 36)), none⟩, 
          ⟨(some 38), (.mv (.tmp 37)), none⟩, 
          ⟨(some 39), (.fieldAddr 2 (.tmp 1)), (some (38, true))⟩, 
          ⟨(some 40), (.load1 (.tmp 39)), (some (38, true))⟩, 
          ⟨(some 41), (.bin .eql (.tmp 40) (.const (.string ⟨#[]⟩))), (some (38, true))⟩, 
          ⟨(some 42), (.pick (.tmp 38) (.tmp 41) (.const (.bool false))), none⟩, 
          ⟨(some 43), (.mv (.tmp 42)), none⟩, 
          ⟨(some 44), (.fieldAddr 3 (.tmp 1)), (some (43, true))⟩, 
          ⟨(some 45), (.load1 (.tmp 44)), (some (43, true))⟩, 
          ⟨(some 46), (.lenSl (.tmp 45)), (some (43, true))⟩, 
          ⟨(some 47), (.bin .eql (.tmp 46) (.const (.int .i64 0))), (some (43, true))⟩, 
          ⟨(some 48), (.pick (.tmp 43) (.tmp 47) (.const (.bool false))), none⟩, 
          ⟨(some 49), (.mv (.tmp 48)), none⟩, 
          ⟨(some 50), (.fieldAddr 4 (.tmp 1)), (some (49, true))⟩, 
          ⟨(some 51), (.load1 (.tmp 50)), (some (49, true))⟩, 
          ⟨(some 52), (.lenSl (.tmp 51)), (some (49, true))⟩, 
          ⟨(some 53), (.bin .eql (.tmp 52) (.const (.int .i64 0))), (some (49, true))⟩, 
          ⟨(some 54), (.pick (.tmp 49) (.tmp 53) (.const (.bool false))), none⟩, 
          ⟨(some 2), (.mv (.tmp 54)), none⟩])
         .ret)
        (.seq (.ops [
          ⟨(some 56), (.bin .eql (.tmp 4) (.const (.int .i64 3))), none⟩, 
          ⟨(some 55), (.mv (.tmp 56)), none⟩])
         (.cond (.tmp 55)
          (.seq (.ops [
            ⟨(some 57), (.fieldAddr 1 (.tmp 1)), none⟩, 
            ⟨(some 58), (.load1 (.tmp 57)), none⟩, 
            ⟨(some 59), (.bin .geq (.tmp 58) (.const (.int .i64 (-9007199254740991)))), none⟩, 
            ⟨(some 60), (.mv (.tmp 59)), none⟩, 
            ⟨(some 61), (.fieldAddr 1 (.tmp 1)), (some (60, true))⟩, 
            ⟨(some 62), (.load1 (.tmp 61)), (some (60, true))⟩, 
            ⟨(some 63), (.bin .leq (.tmp 62) (.const (.int .i64 9007199254740991))), (some (60, true))⟩, 
            ⟨(some 64), (.pick (.tmp 60) (.tmp 63) (.const (.bool false))), none⟩, 
            ⟨(some 65), (.mv (.tmp 64)), none⟩, 
            ⟨(some 66), (.fieldAddr 2 (.tmp 1)), (some (65, true))⟩, 
            ⟨(some 67), (.load1 (.tmp 66)), (some (65, true))⟩, 
            ⟨(some 68), (.bin .eql (.tmp 67) (.const (.string ⟨#[]⟩))), (some (65, true))⟩, 
            ⟨(some 69), (.pick (.tmp 65) (.tmp 68) (.const (.bool false))), none⟩, 
            ⟨(some 70), (.mv (.tmp 69)), none⟩, 
            ⟨(some 71), (.fieldAddr 3 (.tmp 1)), (some (70, true))⟩, 
            ⟨(some 72), (.load1 (.tmp 71)), (some (70, true))⟩, 
            ⟨(some 73), (.lenSl (.tmp 72)), (some (70, true))⟩, 
            ⟨(some 74), (.bin .eql (.tmp 73) (.const (.int .i64 0))), (some (70, true))⟩, 
            ⟨(some 75), (.pick (.tmp 70) (.tmp 74) (.const (.bool false))), none⟩, 
            ⟨(some 76), (.mv (.tmp 75)), none⟩, 
            ⟨(some 77), (.fieldAddr 4 (.tmp 1)), (some (76, true))⟩, 
            ⟨(some 78), (.load1 (.tmp 77)), (some (76, true))⟩, 
            ⟨(some 79), (.lenSl (.tmp 78)), (some (76, true))⟩, 
            ⟨(some 80), (.bin .eql (.tmp 79) (.const (.int .i64 0))), (some (76, true))⟩, 
            ⟨(some 81), (.pick (.tmp 76) (.tmp 80) (.const (.bool false))), none⟩, 
            ⟨(some 2), (.mv (.tmp 81)), none⟩])
           .ret)
          (.seq (.ops [
            ⟨(some 83), (.bin .eql (.tmp 4) (.const (.int .i64 4))), none⟩, 
            ⟨(some 82), (.mv (.tmp 83)), none⟩])
           (.cond (.tmp 82)
            (.seq (.ops [
              ⟨(some 84), (.fieldAddr 1 (.tmp 1)), none⟩, 
              ⟨(some 85), (.load1 (.tmp 84)), none⟩, 
              ⟨(some 86), (.bin .eql (.tmp 85) (.const (.int .i64 0))), none⟩, 
              ⟨(some 87), (.mv (.tmp 86)), none⟩, 
              ⟨(some 88), (.fieldAddr 2 (.tmp 1)), (some (87, true))⟩, 
              ⟨(some 89), (.load1 (.tmp 88)), (some (87, true))⟩, 
              ⟨(some 90), (.callF 46 [(.tmp 89)]), (some (87, true))⟩, 
              ⟨(some 91), (.pick (.tmp 87) (.tmp 90) (.const (.bool false))), none⟩, 
              ⟨(some 92), (.mv (.tmp 91)), none⟩, 
              ⟨(some 93), (.fieldAddr 3 (.tmp 1)), (some (92, true))⟩, 
              ⟨(some 94), (.load1 (.tmp 93)), (some (92, true))⟩, 
              ⟨(some 95), (.lenSl (.tmp 94)), (some (92, true))⟩, 
              ⟨(some 96), (.bin .eql (.tmp 95) (.const (.int .i64 0))), (some (92, true))⟩, 
              ⟨(some 97), (.pick (.tmp 92) (.tmp 96) (.const (.bool false))), none⟩, 
              ⟨(some 98), (.mv (.tmp 97)), none⟩, 
              ⟨(some 99), (.fieldAddr 4 (.tmp 1)), (some (98, true))⟩, 
              ⟨(some 100), (.load1 (.tmp 99)), (some (98, true))⟩, 
              ⟨(some 101), (.lenSl (.tmp 100)), (some (98, true))⟩, 
              ⟨(some 102), (.bin .eql (.tmp 101) (.const (.int .i64 0))), (some (98, true))⟩, 
              ⟨(some 103), (.pick (.tmp 98) (.tmp 102) (.const (.bool false))), none⟩, 
              ⟨(some 2), (.mv (.tmp 103)), none⟩])
             .ret)
            (.seq (.ops [
              ⟨(some 105), (.bin .eql (.tmp 4) (.const (.int .i64 5))), none⟩, 
              ⟨(some 104), (.mv (.tmp 105)), none⟩])
             (.cond (.tmp 104)
              (.seq (.ops [
                ⟨(some 106), (.fieldAddr 1 (.tmp 1)), none⟩, 
                ⟨(some 107), (.load1 (.tmp 106)), none⟩, 
                ⟨(some 108), (.bin .eql (.tmp 107) (.const (.int .i64 0))), none⟩, 
                ⟨(some 109), (.mv (.tmp 108)), none⟩, 
                ⟨(some 110), (.fieldAddr 2 (.tmp 1)), (some (109, true))⟩, 
                ⟨(some 111), (.load1 (.tmp 110)), (some (109, true))⟩, 
                ⟨(some 112), (.bin .eql (.tmp 111) (.const (.string ⟨#[]⟩))), (some (109, true))⟩, 
                ⟨(some 113), (.pick (.tmp 109) (.tmp 112) (.const (.bool false))), none⟩, 
                ⟨(some 114), (.mv (.tmp 113)), none⟩, 
                ⟨(some 115), (.fieldAddr 3 (.tmp 1)), (some (114, true))⟩, 
                ⟨(some 116), (.load1 (.tmp 115)), (some (114, true))⟩, 
                ⟨(some 117), (.lenSl (.tmp 116)), (some (114, true))⟩, 
                ⟨(some 118), (.bin .eql (.tmp 117) (.const (.int .i64 0))), (some (114, true))⟩, 
                ⟨(some 119), (.pick (.tmp 114) (.tmp 118) (.const (.bool false))), none⟩, 
                ⟨(some 2), (.mv (.tmp 119)), none⟩])
               .ret)
              (.seq (.ops [
                ⟨(some 121), (.bin .eql (.tmp 4) (.const (.int .i64 6))), none⟩, 
                ⟨(some 120), (.mv (.tmp 121)), none⟩])
               (.cond (.tmp 120)
                (.seq (.ops [
                  ⟨(some 122), (.fieldAddr 1 (.tmp 1)), none⟩, 
                  ⟨(some 123), (.load1 (.tmp 122)), none⟩, 
                  ⟨(some 124), (.bin .eql (.tmp 123) (.const (.int .i64 0))), none⟩, 
                  ⟨(some 125), (.mv (.tmp 124)), none⟩, 
                  ⟨(some 126), (.fieldAddr 2 (.tmp 1)), (some (125, true))⟩, 
                  ⟨(some 127), (.load1 (.tmp 126)), (some (125, true))⟩, 
                  ⟨(some 128), (.bin .eql (.tmp 127) (.const (.string ⟨#[]⟩))), (some (125, true))⟩, 
                  ⟨(some 129), (.pick (.tmp 125) (.tmp 128) (.const (.bool false))), none⟩, 
                  ⟨(some 130), (.mv (.tmp 129)), none⟩, 
                  ⟨(some 131), (.loadN 5 (.tmp 1)), (some (130, true))⟩, 
                  ⟨(some 132), (.callF 48 [(.tmp 131)]), (some (130, true))⟩, 
                  ⟨(some 133), (.pick (.tmp 130) (.tmp 132) (.const (.bool false))), none⟩, 
                  ⟨(some 2), (.mv (.tmp 133)), none⟩])
                 .ret)
                .skip))))))))))))))
  (.seq (.ops [
    ⟨(some 2), (.mv (.const (.bool false))), none⟩])
   .ret)))
theorem c40 {args : Array Value} {h : Heap} {R : Ending → Heap → Prop} (ha : args.size ≤ 134) (hh : aexec Try.prog ac40 (abody [(.slot 2)] R) ⟨initFr args.toList, []⟩ h) : HCalls Try.prog 40 args h R :=
  hcalls_of Try.func40 rfl rfl (by kernel_rfl) (by kernel_rfl) ha hh
/-- 41: credenza/octets.ReadNum -/
def ac41 : ACode :=
 (.seq (.ops [
  ⟨(some 2), (.mv (.const (.int .u64 0))), none⟩, 
  ⟨(some 3), (.mv (.const (.int .i64 0))), none⟩, 
  ⟨(some 4), (.mv (.const (.int .i64 0))), none⟩])
 (.seq (.ops [
   ⟨(some 5), (.mv (.const (.int .u64 0))), none⟩, 
   ⟨(some 6), (.mv (.const (.int .u64 0))), none⟩])
  (.seq (.seq (.ops [
     ⟨(some 9), (.mv (.tmp 0)), none⟩, 
     ⟨(some 10), (.lenSl (.tmp 9)), none⟩, 
     ⟨(some 11), (.mv (.const (.int .i64 0))), none⟩])
    (.block 0
     (.loop
      (.seq (.ops [
        ⟨(some 12), (.bin .lss (.tmp 11) (.tmp 10)), none⟩])
       (.seq (.cond (.tmp 12)
         .skip
         (.exit 0))
        (.seq (.block 1
          (.seq (.ops [
            ⟨(some 13), (.mv (.tmp 11)), none⟩, 
            ⟨(some 14), (.idxSl 1 (.tmp 9) (.tmp 11)), none⟩, 
            ⟨(some 15), (.load1 (.tmp 14)), none⟩, 
            ⟨(some 7), (.mv (.tmp 13)), none⟩, 
            ⟨(some 8), (.mv (.tmp 15)), none⟩])
           (.seq (.block 2
             (.seq (.seq (.ops [
                ⟨(some 17), (.mv (.tmp 7)), none⟩, 
                ⟨(some 18), (.bin .eql (.tmp 17) (.const (.int .i64 9))), none⟩, 
                ⟨(some 19), (.mv (.tmp 18)), none⟩, 
                ⟨(some 20), (.mv (.tmp 8)), (some (19, true))⟩, 
                ⟨(some 21), (.bin .gtr (.tmp 20) (.const (.int .u8 1))), (some (19, true))⟩, 
                ⟨(some 22), (.pick (.tmp 19) (.tmp 21) (.const (.bool false))), none⟩, 
                ⟨(some 16), (.mv (.tmp 22)), none⟩])
               (.cond (.tmp 16)
                .skip
                (.ops [
                 ⟨(some 23), (.mv (.tmp 7)), none⟩, 
                 ⟨(some 24), (.bin .gtr (.tmp 23) (.const (.int .i64 0))), none⟩, 
                 ⟨(some 25), (.mv (.tmp 24)), none⟩, 
                 ⟨(some 26), (.mv (.tmp 8)), (some (25, true))⟩, 
                 ⟨(some 27), (.bin .eql (.tmp 26) (.const (.int .u8 0))), (some (25, true))⟩, 
                 ⟨(some 28), (.pick (.tmp 25) (.tmp 27) (.const (.bool false))), none⟩, 
                 ⟨(some 16), (.mv (.tmp 28)), none⟩])))
              (.cond (.tmp 16)
               (.seq (.ops [
                 ⟨(some 2), (.mv (.const (.int .u64 0))), none⟩, 
                 ⟨(some 3), (.mv (.const (.int .i64 0))), none⟩, 
                 ⟨(some 4), (.mv (.const (.int .i64 22))), none⟩])
                .ret)
               .skip)))
            (.seq (.ops [
              ⟨(some 29), (.mv (.tmp 5)), none⟩, 
              ⟨(some 30), (.mv (.tmp 8)), none⟩, 
              ⟨(some 31), (.bin .and (.tmp 30) (.const (.int .u8 127))), none⟩, 
              ⟨(some 32), (.convInt .u64 (.tmp 31)), none⟩, 
              ⟨(some 33), (.mv (.tmp 6)), none⟩, 
              ⟨(some 34), (.bin .shl (.tmp 32) (.tmp 33)), none⟩, 
              ⟨(some 35), (.bin .or (.tmp 29) (.tmp 34)), none⟩, 
              ⟨(some 5), (.mv (.tmp 35)), none⟩])
             (.seq (.ops [
               ⟨(some 36), (.mv (.tmp 6)), none⟩, 
               ⟨(some 37), (.bin .add (.tmp 36) (.const (.int .u64 7))), none⟩, 
               ⟨(some 6), (.mv (.tmp 37)), none⟩])
              (.seq (.ops [
                ⟨(some 38), (.mv (.tmp 8)), none⟩, 
                ⟨(some 39), (.bin .lss (.tmp 38) (.const (.int .u8 128))), none⟩])
               (.cond (.tmp 39)
                (.seq (.ops [
                  ⟨(some 40), (.mv (.tmp 5)), none⟩, 
                  ⟨(some 41), (.mv (.tmp 7)), none⟩, 
                  ⟨(some 42), (.bin .add (.tmp 41) (.const (.int .i64 1))), none⟩, 
                  ⟨(some 2), (.mv (.tmp 40)), none⟩, 
                  ⟨(some 3), (.mv (.tmp 42)), none⟩, 
                  ⟨(some 4), (.mv (.const (.int .i64 0))), none⟩])
                 .ret)
                .skip)))))))
         (.ops [
          ⟨(some 43), (.bin .add (.tmp 11) (.const (.int .i64 1))), none⟩, 
          ⟨(some 11), (.mv (.tmp 43)), none⟩])))))))
   (.seq (.ops [
     ⟨(some 2), (.mv (.const (.int .u64 0))), none⟩, 
     ⟨(some 3), (.mv (.const (.int .i64 0))), none⟩, 
     ⟨(some 4), (.mv (.const (.int .i64 20))), none⟩])
    .ret))))
theorem c41 {args : Array Value} {h : Heap} {R : Ending → Heap → Prop} (ha : args.size ≤ 44) (hh : aexec Try.prog ac41 (abody [(.slot 2), (.slot 3), (.slot 4)] R) ⟨initFr args.toList, []⟩ h) : HCalls Try.prog 41 args h R :=
  hcalls_of Try.func41 rfl rfl (by kernel_rfl) (by kernel_rfl) ha hh
/-- 42: credenza/octets.ReadText -/
def ac42 : ACode :=
 (.seq (.ops [
  ⟨(some 4), (.mv (.const (.string ⟨#[]⟩))), none⟩, 
  ⟨(some 5), (.mv (.const (.int .i64 0))), none⟩, 
  ⟨(some 6), (.mv (.const (.int .i64 0))), none⟩])
 (.seq (.ops [
   ⟨(some 12), (.mv (.tmp 0)), none⟩, 
   ⟨(some 13), (.callF 41 [(.tmp 12)]), none⟩, 
   ⟨(some 11), (.mv (.tmp 13)), none⟩, 
   ⟨(some 14), (.extract (.tmp 11) 0), none⟩, 
   ⟨(some 15), (.extract (.tmp 11) 1), none⟩, 
   ⟨(some 16), (.extract (.tmp 11) 2), none⟩, 
   ⟨(some 7), (.mv (.tmp 14)), none⟩, 
   ⟨(some 8), (.mv (.tmp 15)), none⟩, 
   ⟨(some 9), (.mv (.tmp 16)), none⟩])
  (.seq (.block 0
    (.seq (.ops [
      ⟨(some 18), (.mv (.tmp 9)), none⟩, 
      ⟨(some 19), (.bin .neq (.tmp 18) (.const (.int .i64 0))), none⟩, 
      ⟨(some 17), (.mv (.tmp 19)), none⟩])
     (.cond (.tmp 17)
      (.seq (.ops [
        ⟨(some 20), (.mv (.tmp 9)), none⟩, 
        ⟨(some 4), (.mv (.const (.string ⟨#[]⟩))), none⟩, 
        ⟨(some 5), (.mv (.const (.int .i64 0))), none⟩, 
        ⟨(some 6), (.mv (.tmp 20)), none⟩])
       .ret)
      (.seq (.ops [
        ⟨(some 22), (.mv (.tmp 1)), none⟩, 
        ⟨(some 23), (.bin .lss (.tmp 22) (.const (.int .i64 0))), none⟩, 
        ⟨(some 24), (.mv (.tmp 23)), none⟩, 
        ⟨(some 25), (.mv (.tmp 7)), (some (24, false))⟩, 
        ⟨(some 26), (.mv (.tmp 1)), (some (24, false))⟩, 
        ⟨(some 27), (.convInt .u64 (.tmp 26)), (some (24, false))⟩, 
        ⟨(some 28), (.bin .gtr (.tmp 25) (.tmp 27)), (some (24, false))⟩, 
        ⟨(some 29), (.pick (.tmp 24) (.const (.bool true)) (.tmp 28)), none⟩, 
        ⟨(some 21), (.mv (.tmp 29)), none⟩])
       (.cond (.tmp 21)
        (.seq (.ops [
          ⟨(some 4), (.mv (.const (.string ⟨#[]⟩))), none⟩, 
          ⟨(some 5), (.mv (.const (.int .i64 0))), none⟩, 
          ⟨(some 6), (.mv (.const (.int .i64 22))), none⟩])
         .ret)
        (.seq (.ops [
          ⟨(some 31), (.mv (.tmp 0)), none⟩, 
          ⟨(some 32), (.lenSl (.tmp 31)), none⟩, 
          ⟨(some 33), (.mv (.tmp 8)), none⟩, 
          ⟨(some 34), (.bin .sub (.tmp 32) (.tmp 33)), none⟩, 
          ⟨(some 35), (.convInt .u64 (.tmp 34)), none⟩, 
          ⟨(some 36), (.mv (.tmp 7)), none⟩, 
          ⟨(some 37), (.bin .lss (.tmp 35) (.tmp 36)), none⟩, 
          ⟨(some 30), (.mv (.tmp 37)), none⟩])
         (.cond (.tmp 30)
          (.seq (.ops [
            ⟨(some 4), (.mv (.const (.string ⟨#[]⟩))), none⟩, 
            ⟨(some 5), (.mv (.const (.int .i64 0))), none⟩, 
            ⟨(some 6), (.mv (.const (.int .i64 20))), none⟩])
           .ret)
          .skip)))))))
   (.seq (.ops [
     ⟨(some 38), (.mv (.tmp 8)), none⟩, 
     ⟨(some 39), (.mv (.tmp 7)), none⟩, 
     ⟨(some 40), (.convInt .i64 (.tmp 39)), none⟩, 
     ⟨(some 41), (.bin .add (.tmp 38) (.tmp 40)), none⟩, 
     ⟨(some 10), (.mv (.tmp 41)), none⟩])
    (.seq (.ops [
      ⟨(some 42), (.mv (.tmp 0)), none⟩, 
      ⟨(some 43), (.mv (.tmp 8)), none⟩, 
      ⟨(some 44), (.mv (.tmp 10)), none⟩, 
      ⟨(some 45), (.sliceSl 1 (.tmp 42) (some (.tmp 43)) (some (.tmp 44)) none), none⟩, 
      ⟨(some 46), (.strOfBytes (.tmp 45)), none⟩, 
      ⟨(some 47), (.mv (.tmp 10)), none⟩, 
      ⟨(some 4), (.mv (.tmp 46)), none⟩, 
      ⟨(some 5), (.mv (.tmp 47)), none⟩, 
      ⟨(some 6), (.mv (.const (.int .i64 0))), none⟩])
     .ret)))))
theorem c42 {args : Array Value} {h : Heap} {R : Ending → Heap → Prop} (ha : args.size ≤ 48) (hh : aexec Try.prog ac42 (abody [(.slot 4), (.slot 5), (.slot 6)] R) ⟨initFr args.toList, []⟩ h) : HCalls Try.prog 42 args h R :=
  hcalls_of Try.func42 rfl rfl (by kernel_rfl) (by kernel_rfl) ha hh
/-- 43: slices.Contains[[]string,string] -/
def ac43 : ACode :=
 (.seq (.ops [
  ⟨(some 4), (.mv (.const (.bool false))), none⟩])
 (.seq (.ops [
   ⟨(some 5), (.mv (.tmp 0)), none⟩, 
   ⟨(some 6), (.mv (.tmp 1)), none⟩, 
   ⟨(some 7), (.callF 49 [(.tmp 5), (.tmp 6)]), none⟩, 
   ⟨(some 8), (.bin .geq (.tmp 7) (.const (.int .i64 0))), none⟩, 
   ⟨(some 4), (.mv (.tmp 8)), none⟩])
  .ret))
theorem c43 {args : Array Value} {h : Heap} {R : Ending → Heap → Prop} (ha : args.size ≤ 9) (hh : aexec Try.prog ac43 (abody [(.slot 4)] R) ⟨initFr args.toList, []⟩ h) : HCalls Try.prog 43 args h R :=
  hcalls_of Try.func43 rfl rfl (by kernel_rfl) (by kernel_rfl) ha hh
/-- 44: credenza/credenzaref02.ReadNum -/
def ac44 : ACode :=
 (.seq (.ops [
  ⟨(some 2), (.mv (.const (.int .u64 0))), none⟩, 
  ⟨(some 3), (.mv (.const (.int .i64 0))), none⟩, 
  ⟨(some 4), (.mv (.const (.int .i64 0))), none⟩])
 (.seq (.ops [
   ⟨(some 5), (.mv (.const (.int .u64 0))), none⟩])
  (.seq (.seq (.ops [
     ⟨(some 6), (.mv (.const (.int .i64 0))), none⟩])
    (.block 0
     (.loop
      (.seq (.seq (.ops [
         ⟨(some 7), (.mv (.tmp 6)), none⟩, 
         ⟨(some 8), (.bin .lss (.tmp 7) (.const (.int .i64 10))), none⟩])
        (.cond (.tmp 8)
         .skip
         (.exit 0)))
       (.seq (.block 1
         (.seq (.seq (.ops [
            ⟨(some 11), (.mv (.tmp 6)), none⟩, 
            ⟨(some 12), (.mv (.tmp 0)), none⟩, 
            ⟨(some 13), (.lenSl (.tmp 12)), none⟩, 
            ⟨(some 14), (.bin .geq (.tmp 11) (.tmp 13)), none⟩])
           (.cond (.tmp 14)
            (.seq (.ops [
              ⟨(some 2), (.mv (.const (.int .u64 0))), none⟩, 
              ⟨(some 3), (.mv (.const (.int .i64 0))), none⟩, 
              ⟨(some 4), (.mv (.const (.int .i64 20))), none⟩])
             .ret)
            .skip))
          (.seq (.seq (.ops [
             ⟨(some 15), (.mv (.tmp 6)), none⟩, 
             ⟨(some 16), (.bin .eql (.tmp 15) (.const (.int .i64 9))), none⟩, 
             ⟨(some 17), (.mv (.tmp 16)), none⟩, 
             ⟨(some 18), (.mv (.tmp 0)), (some (17, true))⟩, 
             ⟨(some 19), (.mv (.tmp 6)), (some (17, true))⟩, 
             ⟨(some 20), (.idxSl 1 (.tmp 18) (.tmp 19)), (some (17, true))⟩, 
             ⟨(some 21), (.load1 (.tmp 20)), (some (17, true))⟩, 
             ⟨(some 22), (.bin .gtr (.tmp 21) (.const (.int .u8 1))), (some (17, true))⟩, 
             ⟨(some 23), (.pick (.tmp 17) (.tmp 22) (.const (.bool false))), none⟩])
            (.cond (.tmp 23)
             (.seq (.ops [
               ⟨(some 2), (.mv (.const (.int .u64 0))), none⟩, 
               ⟨(some 3), (.mv (.const (.int .i64 0))), none⟩, 
               ⟨(some 4), (.mv (.const (.int .i64 22))), none⟩])
              .ret)
             .skip))
           (.seq (.ops [
             ⟨(some 24), (.mv (.tmp 5)), none⟩, 
             ⟨(some 25), (.mv (.tmp 0)), none⟩, 
             ⟨(some 26), (.mv (.tmp 6)), none⟩, 
             ⟨(some 27), (.idxSl 1 (.tmp 25) (.tmp 26)), none⟩, 
             ⟨(some 28), (.load1 (.tmp 27)), none⟩, 
             ⟨(some 29), (.bin .rem (.tmp 28) (.const (.int .u8 128))), none⟩, 
             ⟨(some 30), (.convInt .u64 (.tmp 29)), none⟩, 
             ⟨(some 31), (.mv (.tmp 6)), none⟩, 
             ⟨(some 32), (.bin .mul (.const (.int .i64 7)) (.tmp 31)), none⟩, 
             ⟨(some 33), (.bin .shl (.tmp 30) (.tmp 32)), none⟩, 
             ⟨(some 34), (.bin .or (.tmp 24) (.tmp 33)), none⟩, 
             ⟨(some 5), (.mv (.tmp 34)), none⟩])
            (.seq (.ops [
              ⟨(some 35), (.mv (.tmp 0)), none⟩, 
              ⟨(some 36), (.mv (.tmp 6)), none⟩, 
              ⟨(some 37), (.idxSl 1 (.tmp 35) (.tmp 36)), none⟩, 
              ⟨(some 38), (.load1 (.tmp 37)), none⟩, 
              ⟨(some 39), (.bin .lss (.tmp 38) (.const (.int .u8 128))), none⟩])
             (.cond (.tmp 39)
              (.seq (.seq (.ops [
                 ⟨(some 40), (.mv (.tmp 0)), none⟩, 
                 ⟨(some 41), (.mv (.tmp 6)), none⟩, 
                 ⟨(some 42), (.idxSl 1 (.tmp 40) (.tmp 41)), none⟩, 
                 ⟨(some 43), (.load1 (.tmp 42)), none⟩, 
                 ⟨(some 44), (.bin .eql (.tmp 43) (.const (.int .u8 0))), none⟩, 
                 ⟨(some 45), (.mv (.tmp 44)), none⟩, 
                 ⟨(some 46), (.mv (.tmp 6)), (some (45, true))⟩, 
                 ⟨(some 47), (.bin .gtr (.tmp 46) (.const (.int .i64 0))), (some (45, true))⟩, 
                 ⟨(some 48), (.pick (.tmp 45) (.tmp 47) (.const (.bool false))), none⟩])
                (.cond (.tmp 48)
                 (.seq (.ops [
                   ⟨(some 2), (.mv (.const (.int .u64 0))), none⟩, 
                   ⟨(some 3), (.mv (.const (.int .i64 0))), none⟩, 
                   ⟨(some 4), (.mv (.const (.int .i64 22))), none⟩])
                  .ret)
                 .skip))
               (.seq (.ops [
                 ⟨(some 49), (.mv (.tmp 5)), none⟩, 
                 ⟨(some 50), (.mv (.tmp 6)), none⟩, 
                 ⟨(some 51), (.bin .add (.tmp 50) (.const (.int .i64 1))), none⟩, 
                 ⟨(some 2), (.mv (.tmp 49)), none⟩, 
                 ⟨(some 3), (.mv (.tmp 51)), none⟩, 
                 ⟨(some 4), (.mv (.const (.int .i64 0))), none⟩])
                .ret))
              .skip))))))
        (.ops [
         ⟨(some 9), (.mv (.tmp 6)), none⟩, 
         ⟨(some 10), (.bin .add (.tmp 9) (.const (.int .i64 1))), none⟩, 
         ⟨(some 6), (.mv (.tmp 10)), none⟩]))))))
   (.seq (.ops [
     ⟨(some 2), (.mv (.const (.int .u64 0))), none⟩, 
     ⟨(some 3), (.mv (.const (.int .i64 0))), none⟩, 
     ⟨(some 4), (.mv (.const (.int .i64 22))), none⟩])
    .ret))))
theorem c44 {args : Array Value} {h : Heap} {R : Ending → Heap → Prop} (ha : args.size ≤ 52) (hh : aexec Try.prog ac44 (abody [(.slot 2), (.slot 3), (.slot 4)] R) ⟨initFr args.toList, []⟩ h) : HCalls Try.prog 44 args h R :=
  hcalls_of Try.func44 rfl rfl (by kernel_rfl) (by kernel_rfl) ha hh
/-- 45: credenza/credenzaref02.ReadText -/
def ac45 : ACode :=
 (.seq (.ops [
  ⟨(some 4), (.mv (.const (.string ⟨#[]⟩))), none⟩, 
  ⟨(some 5), (.mv (.const (.int .i64 0))), none⟩, 
  ⟨(some 6), (.mv (.const (.int .i64 0))), none⟩])
 (.seq (.ops [
   ⟨(some 11), (.mv (.tmp 0)), none⟩, 
   ⟨(some 12), (.callF 44 [(.tmp 11)]), none⟩, 
   ⟨(some 10), (.mv (.tmp 12)), none⟩, 
   ⟨(some 13), (.extract (.tmp 10) 0), none⟩, 
   ⟨(some 14), (.extract (.tmp 10) 1), none⟩, 
   ⟨(some 15), (.extract (.tmp 10) 2), none⟩, 
   ⟨(some 7), (.mv (.tmp 13)), none⟩, 
   ⟨(some 8), (.mv (.tmp 14)), none⟩, 
   ⟨(some 9), (.mv (.tmp 15)), none⟩])
  (.seq (.seq (.ops [
     ⟨(some 16), (.mv (.tmp 9)), none⟩, 
     ⟨(some 17), (.bin .neq (.tmp 16) (.const (.int .i64 0))), none⟩])
    (.cond (.tmp 17)
     (.seq (.ops [
       ⟨(some 18), (.mv (.tmp 9)), none⟩, 
       ⟨(some 4), (.mv (.const (.string ⟨#[]⟩))), none⟩, 
       ⟨(some 5), (.mv (.const (.int .i64 0))), none⟩, 
       ⟨(some 6), (.mv (.tmp 18)), none⟩])
      .ret)
     .skip))
   (.seq (.seq (.ops [
      ⟨(some 19), (.mv (.tmp 1)), none⟩, 
      ⟨(some 20), (.bin .lss (.tmp 19) (.const (.int .i64 0))), none⟩, 
      ⟨(some 21), (.mv (.tmp 20)), none⟩, 
      ⟨(some 22), (.mv (.tmp 7)), (some (21, false))⟩, 
      ⟨(some 23), (.mv (.tmp 1)), (some (21, false))⟩, 
      ⟨(some 24), (.convInt .u64 (.tmp 23)), (some (21, false))⟩, 
      ⟨(some 25), (.bin .gtr (.tmp 22) (.tmp 24)), (some (21, false))⟩, 
      ⟨(some 26), (.pick (.tmp 21) (.const (.bool true)) (.tmp 25)), none⟩])
     (.cond (.tmp 26)
      (.seq (.ops [
        ⟨(some 4), (.mv (.const (.string ⟨#[]⟩))), none⟩, 
        ⟨(some 5), (.mv (.const (.int .i64 0))), none⟩, 
        ⟨(some 6), (.mv (.const (.int .i64 22))), none⟩])
       .ret)
      .skip))
    (.seq (.seq (.ops [
       ⟨(some 27), (.mv (.tmp 7)), none⟩, 
       ⟨(some 28), (.mv (.tmp 0)), none⟩, 
       ⟨(some 29), (.lenSl (.tmp 28)), none⟩, 
       ⟨(some 30), (.mv (.tmp 8)), none⟩, 
       ⟨(some 31), (.bin .sub (.tmp 29) (.tmp 30)), none⟩, 
       ⟨(some 32), (.convInt .u64 (.tmp 31)), none⟩, 
       ⟨(some 33), (.bin .gtr (.tmp 27) (.tmp 32)), none⟩])
      (.cond (.tmp 33)
       (.seq (.ops [
         ⟨(some 4), (.mv (.const (.string ⟨#[]⟩))), none⟩, 
         ⟨(some 5), (.mv (.const (.int .i64 0))), none⟩, 
         ⟨(some 6), (.mv (.const (.int .i64 20))), none⟩])
        .ret)
       .skip))
     (.seq (.ops [
       ⟨(some 34), (.mv (.tmp 0)), none⟩, 
       ⟨(some 35), (.mv (.tmp 8)), none⟩, 
       ⟨(some 36), (.mv (.tmp 8)), none⟩, 
       ⟨(some 37), (.mv (.tmp 7)), none⟩, 
       ⟨(some 38), (.convInt .i64 (.tmp 37)), none⟩, 
       ⟨(some 39), (.bin .add (.tmp 36) (.tmp 38)), none⟩, 
       ⟨(some 40), (.sliceSl 1 (.tmp 34) (some (.tmp 35)) (some (.tmp 39)) none), none⟩, 
       ⟨(some 41), (.strOfBytes (.tmp 40)), none⟩, 
       ⟨(some 42), (.mv (.tmp 8)), none⟩, 
       ⟨(some 43), (.mv (.tmp 7)), none⟩, 
       ⟨(some 44), (.convInt .i64 (.tmp 43)), none⟩, 
       ⟨(some 45), (.bin .add (.tmp 42) (.tmp 44)), none⟩, 
       ⟨(some 4), (.mv (.tmp 41)), none⟩, 
       ⟨(some 5), (.mv (.tmp 45)), none⟩, 
       ⟨(some 6), (.mv (.const (.int .i64 0))), none⟩])
      .ret))))))
theorem c45 {args : Array Value} {h : Heap} {R : Ending → Heap → Prop} (ha : args.size ≤ 46) (hh : aexec Try.prog ac45 (abody [(.slot 4), (.slot 5), (.slot 6)] R) ⟨initFr args.toList, []⟩ h) : HCalls Try.prog 45 args h R :=
  hcalls_of Try.func45 rfl rfl (by kernel_rfl) (by kernel_rfl) ha hh
/-- 46: credenza/credenzaref01.Check -/
def ac46 : ACode :=
 (.seq (.ops [
  ⟨(some 2), (.mv (.const (.bool false))), none⟩])
 (.seq (.ops [
   ⟨(some 3), (.mv (.tmp 0)), none⟩, 
   ⟨(some 4), (.lenStr (.tmp 3)), none⟩, 
   ⟨(some 5), (.bin .rem (.tmp 4) (.const (.int .i64 2))), none⟩, 
   ⟨(some 6), (.bin .eql (.tmp 5) (.const (.int .i64 0))), none⟩, 
   ⟨(some 2), (.mv (.tmp 6)), none⟩])
  .ret))
theorem c46 {args : Array Value} {h : Heap} {R : Ending → Heap → Prop} (ha : args.size ≤ 7) (hh : aexec Try.prog ac46 (abody [(.slot 2)] R) ⟨initFr args.toList, []⟩ h) : HCalls Try.prog 46 args h R :=
  hcalls_of Try.func46 rfl rfl (by kernel_rfl) (by kernel_rfl) ha hh
/-- 47: credenza/credenzaref04.has -/
def ac47 : ACode :=
 (.seq (.ops [
  ⟨(some 4), (.mv (.const (.bool false))), none⟩])
 (.seq (.seq (.ops [
    ⟨(some 7), (.mv (.tmp 0)), none⟩, 
    ⟨(some 8), (.lenSl (.tmp 7)), none⟩, 
    ⟨(some 9), (.mv (.const (.int .i64 0))), none⟩])
   (.block 0
    (.loop
     (.seq (.ops [
       ⟨(some 10), (.bin .lss (.tmp 9) (.tmp 8)), none⟩])
      (.seq (.cond (.tmp 10)
        .skip
        (.exit 0))
       (.seq (.block 1
         (.seq (.ops [
           ⟨(some 11), (.idxSl 1 (.tmp 7) (.tmp 9)), none⟩, 
           ⟨(some 12), (.load1 (.tmp 11)), none⟩, 
           ⟨(some 6), (.mv (.tmp 12)), none⟩])
          (.seq (.ops [
            ⟨(some 13), (.mv (.tmp 6)), none⟩, 
            ⟨(some 14), (.mv (.tmp 1)), none⟩, 
            ⟨(some 15), (.bin .eql (.tmp 13) (.tmp 14)), none⟩])
           (.cond (.tmp 15)
            (.seq (.ops [
              ⟨(some 4), (.mv (.const (.bool true))), none⟩])
             .ret)
            .skip))))
        (.ops [
         ⟨(some 16), (.bin .add (.tmp 9) (.const (.int .i64 1))), none⟩, 
         ⟨(some 9), (.mv (.tmp 16)), none⟩])))))))
  (.seq (.ops [
    ⟨(some 4), (.mv (.const (.bool false))), none⟩])
   .ret)))
theorem c47 {args : Array Value} {h : Heap} {R : Ending → Heap → Prop} (ha : args.size ≤ 17) (hh : aexec Try.prog ac47 (abody [(.slot 4)] R) ⟨initFr args.toList, []⟩ h) : HCalls Try.prog 47 args h R :=
  hcalls_of Try.func47 rfl rfl (by kernel_rfl) (by kernel_rfl) ha hh
/-- 48: credenza/credenzaref03.keys -/
def ac48 : ACode :=
 (.seq (.ops [
  ⟨(some 1), (.box 25 (.tmp 0)), none⟩, 
  ⟨(some 2), (.mv (.const (.bool false))), none⟩])
 (.seq (.seq (.ops [
    ⟨(some 7), (.fieldAddr 3 (.tmp 1)), none⟩, 
    ⟨(some 8), (.load1 (.tmp 7)), none⟩, 
    ⟨(some 9), (.lenSl (.tmp 8)), none⟩, 
    ⟨(some 10), (.fieldAddr 4 (.tmp 1)), none⟩, 
    ⟨(some 11), (.load1 (.tmp 10)), none⟩, 
    ⟨(some 12), (.lenSl (.tmp 11)), none⟩, 
    ⟨(some 13), (.bin .neq (.tmp 9) (.tmp 12)), none⟩])
   (.cond (.tmp 13)
    (.seq (.ops [
      ⟨(some 2), (.mv (.const (.bool false))), none⟩])
     .ret)
    .skip))
  (.seq (.seq (.ops [
     ⟨(some 14), (.fieldAddr 3 (.tmp 1)), none⟩, 
     ⟨(some 15), (.load1 (.tmp 14)), none⟩, 
     ⟨(some 16), (.lenSl (.tmp 15)), none⟩, 
     ⟨(some 17), (.mv (.const (.int .i64 0))), none⟩])
    (.block 0
     (.loop
      (.seq (.ops [
        ⟨(some 18), (.bin .lss (.tmp 17) (.tmp 16)), none⟩])
       (.seq (.cond (.tmp 18)
         .skip
         (.exit 0))
        (.seq (.block 1
          (.seq (.ops [
            ⟨(some 19), (.mv (.tmp 17)), none⟩, 
            ⟨(some 20), (.idxSl 1 (.tmp 15) (.tmp 17)), none⟩, 
            ⟨(some 21), (.load1 (.tmp 20)), none⟩, 
            ⟨(some 3), (.mv (.tmp 19)), none⟩, 
            ⟨(some 4), (.mv (.tmp 21)), none⟩])
           (.seq (.seq (.ops [
              ⟨(some 22), (.fieldAddr 3 (.tmp 1)), none⟩, 
              ⟨(some 23), (.load1 (.tmp 22)), none⟩, 
              ⟨(some 24), (.mv (.tmp 3)), none⟩, 
              ⟨(some 25), (.sliceSl 1 (.tmp 23) none (some (.tmp 24)) none), none⟩, 
              ⟨(some 26), (.lenSl (.tmp 25)), none⟩, 
              ⟨(some 27), (.mv (.const (.int .i64 0))), none⟩])
             (.block 2
              (.loop
               (.seq (.ops [
                 ⟨(some 28), (.bin .lss (.tmp 27) (.tmp 26)), none⟩])
                (.seq (.cond (.tmp 28)
                  .skip
                  (.exit 2))
                 (.seq (.block 3
                   (.seq (.ops [
                     ⟨(some 29), (.idxSl 1 (.tmp 25) (.tmp 27)), none⟩, 
                     ⟨(some 30), (.load1 (.tmp 29)), none⟩, 
                     ⟨(some 6), (.mv (.tmp 30)), none⟩])
                    (.seq (.ops [
                      ⟨(some 31), (.mv (.tmp 6)), none⟩, 
                      ⟨(some 32), (.mv (.tmp 4)), none⟩, 
                      ⟨(some 33), (.bin .eql (.tmp 31) (.tmp 32)), none⟩])
                     (.cond (.tmp 33)
                      (.seq (.ops [
                        ⟨(some 2), (.mv (.const (.bool false))), none⟩])
                       .ret)
                      .skip))))
                  (.ops [
                   ⟨(some 34), (.bin .add (.tmp 27) (.const (.int .i64 1))), none⟩, 
                   ⟨(some 27), (.mv (.tmp 34)), none⟩])))))))
            (.seq (.ops [
              ⟨(some 35), (.mv (.tmp 4)), none⟩, 
              ⟨(some 36), (.callF 46 [(.tmp 35)]), none⟩, 
              ⟨(some 37), (.un .not (.tmp 36)), none⟩])
             (.cond (.tmp 37)
              (.seq (.ops [
                ⟨(some 2), (.mv (.const (.bool false))), none⟩])
               .ret)
              .skip)))))
         (.ops [
          ⟨(some 38), (.bin .add (.tmp 17) (.const (.int .i64 1))), none⟩, 
          ⟨(some 17), (.mv (.tmp 38)), none⟩])))))))
   (.seq (.ops [
     ⟨(some 2), (.mv (.const (.bool true))), none⟩])
    .ret))))
theorem c48 {args : Array Value} {h : Heap} {R : Ending → Heap → Prop} (ha : args.size ≤ 39) (hh : aexec Try.prog ac48 (abody [(.slot 2)] R) ⟨initFr args.toList, []⟩ h) : HCalls Try.prog 48 args h R :=
  hcalls_of Try.func48 rfl rfl (by kernel_rfl) (by kernel_rfl) ha hh
/-- 49: slices.Index[[]string,string] -/
def ac49 : ACode :=
 (.seq (.ops [
  ⟨(some 4), (.mv (.const (.int .i64 0))), none⟩])
 (.seq (.seq (.ops [
    ⟨(some 6), (.mv (.tmp 0)), none⟩, 
    ⟨(some 7), (.lenSl (.tmp 6)), none⟩, 
    ⟨(some 8), (.mv (.const (.int .i64 0))), none⟩])
   (.block 0
    (.loop
     (.seq (.ops [
       ⟨(some 9), (.bin .lss (.tmp 8) (.tmp 7)), none⟩])
      (.seq (.cond (.tmp 9)
        .skip
        (.exit 0))
       (.seq (.block 1
         (.seq (.ops [
           ⟨(some 10), (.mv (.tmp 8)), none⟩, 
           ⟨(some 5), (.mv (.tmp 10)), none⟩])
          (.seq (.ops [
            ⟨(some 11), (.mv (.tmp 1)), none⟩, 
            ⟨(some 12), (.mv (.tmp 0)), none⟩, 
            ⟨(some 13), (.mv (.tmp 5)), none⟩, 
            ⟨(some 14), (.idxSl 1 (.tmp 12) (.tmp 13)), none⟩, 
            ⟨(some 15), (.load1 (.tmp 14)), none⟩, 
            ⟨(some 16), (.bin .eql (.tmp 11) (.tmp 15)), none⟩])
           (.cond (.tmp 16)
            (.seq (.ops [
              ⟨(some 17), (.mv (.tmp 5)), none⟩, 
              ⟨(some 4), (.mv (.tmp 17)), none⟩])
             .ret)
            .skip))))
        (.ops [
         ⟨(some 18), (.bin .add (.tmp 8) (.const (.int .i64 1))), none⟩, 
         ⟨(some 8), (.mv (.tmp 18)), none⟩])))))))
  (.seq (.ops [
    ⟨(some 4), (.mv (.const (.int .i64 (-1)))), none⟩])
   .ret)))
theorem c49 {args : Array Value} {h : Heap} {R : Ending → Heap → Prop} (ha : args.size ≤ 19) (hh : aexec Try.prog ac49 (abody [(.slot 4)] R) ⟨initFr args.toList, []⟩ h) : HCalls Try.prog 49 args h R :=
  hcalls_of Try.func49 rfl rfl (by kernel_rfl) (by kernel_rfl) ha hh
end Go.Proofs.Ytkcnjcdggbifeaa.Hc
