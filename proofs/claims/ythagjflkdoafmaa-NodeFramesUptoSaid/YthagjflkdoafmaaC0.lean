import Derived.Test.YthagjflkdoafmaaProg
import Derived.Test.YthagjflkdoafmaaHM
import Derived.Test.YthagjflkdoafmaaHP
import Derived.KernelRfl
set_option linter.unusedVariables false
namespace Go.Proofs.Ythagjflkdoafmaa.Hc
open Go Go.H Go.Proofs
set_option maxRecDepth 100000
/-- 3: credenza/credenzalaw17.NodeWrites -/
def ac3 : ACode :=
 (.seq (.ops [
  ⟨(some 3), (.box 25 (.tmp 0)), none⟩, 
  ⟨(some 4), (.box 25 (.tmp 1)), none⟩, 
  ⟨(some 6), (.mv (.const (.bool false))), none⟩])
 (.seq (.ops [
   ⟨(some 12), (.loadN 3 (.tmp 3)), none⟩, 
   ⟨(some 13), (.callF 9 [(.tmp 12)]), none⟩, 
   ⟨(some 7), (.new 26 [(.slice none 0 0), (.slice none 0 0), (.slice none 0 0)]), none⟩, 
   ⟨none, (.storeN 3 (.tmp 7) (.tmp 13)), none⟩])
  (.seq (.ops [
    ⟨(some 15), (.loadN 3 (.tmp 7)), none⟩, 
    ⟨(some 16), (.callF 10 [(.tmp 15)]), none⟩, 
    ⟨(some 14), (.mv (.tmp 16)), none⟩, 
    ⟨(some 17), (.extract (.tmp 14) 0), none⟩, 
    ⟨(some 18), (.extract (.tmp 14) 1), none⟩, 
    ⟨(some 8), (.mv (.tmp 17)), none⟩, 
    ⟨(some 9), (.mv (.tmp 18)), none⟩])
   (.seq (.ops [
     ⟨(some 20), (.loadN 3 (.tmp 3)), none⟩, 
     ⟨(some 21), (.callF 11 [(.tmp 20)]), none⟩, 
     ⟨(some 19), (.mv (.tmp 21)), none⟩, 
     ⟨(some 22), (.extract (.tmp 19) 0), none⟩, 
     ⟨(some 23), (.extract (.tmp 19) 1), none⟩, 
     ⟨(some 10), (.mv (.tmp 22)), none⟩, 
     ⟨(some 11), (.mv (.tmp 23)), none⟩])
    (.seq (.seq (.any [24, 25, 26, 27, 28, 29, 30, 31, 32, 33, 34, 35, 36, 37, 38, 39, 40, 41, 42, 43, 44, 45, 46, 47, 48, 49, 50, 51, 52, 53, 54, 55, 56, 57, 58, 59, 60, 61, 62, 63, 64, 65, 66, 6] [
       ⟨(some 24), (.callF 12 []), none⟩, 
       ⟨(some 25), (.mv (.tmp 24)), none⟩, 
       ⟨(some 26), (.mv (.tmp 8)), (some (25, true))⟩, 
       ⟨(some 27), (.mv (.tmp 10)), (some (25, true))⟩, 
       ⟨(some 28), (.callF 13 [(.tmp 26), (.tmp 27)]), (some (25, true))⟩, 
       ⟨(some 29), (.pick (.tmp 25) (.tmp 28) (.const (.bool false))), none⟩, 
       ⟨(some 30), (.mv (.tmp 29)), none⟩, 
       ⟨(some 31), (.mv (.tmp 9)), (some (30, true))⟩, 
       ⟨(some 32), (.mv (.tmp 11)), (some (30, true))⟩, 
       ⟨(some 33), (.bin .eql (.tmp 31) (.tmp 32)), (some (30, true))⟩, 
       ⟨(some 34), (.pick (.tmp 30) (.tmp 33) (.const (.bool false))), none⟩, 
       ⟨(some 35), (.mv (.tmp 34)), none⟩, 
       ⟨(some 36), (.loadN 3 (.tmp 7)), (some (35, true))⟩])
      (.seq (.alt
        (.any [24, 25, 26, 27, 28, 29, 30, 31, 32, 33, 34, 35, 36, 37, 38, 39, 40, 41, 42, 43, 44, 45, 46, 47, 48, 49, 50, 51, 52, 53, 54, 55, 56, 57, 58, 59, 60, 61, 62, 63, 64, 65, 66, 6] [
         ⟨(some 37), (.callF 14 [(.tmp 36)]), (some (35, true))⟩, 
         ⟨(some 38), (.loadN 3 (.tmp 3)), (some (35, true))⟩])
        (.any [24, 25, 26, 27, 28, 29, 30, 31, 32, 33, 34, 35, 36, 37, 38, 39, 40, 41, 42, 43, 44, 45, 46, 47, 48, 49, 50, 51, 52, 53, 54, 55, 56, 57, 58, 59, 60, 61, 62, 63, 64, 65, 66, 6] [
         ⟨(some 38), (.loadN 3 (.tmp 3)), (some (35, true))⟩, 
         ⟨(some 37), (.callF 14 [(.tmp 36)]), (some (35, true))⟩]))
       (.seq (.any [24, 25, 26, 27, 28, 29, 30, 31, 32, 33, 34, 35, 36, 37, 38, 39, 40, 41, 42, 43, 44, 45, 46, 47, 48, 49, 50, 51, 52, 53, 54, 55, 56, 57, 58, 59, 60, 61, 62, 63, 64, 65, 66, 6] [
         ⟨(some 39), (.callF 15 [(.tmp 38)]), (some (35, true))⟩, 
         ⟨(some 40), (.bin .eql (.tmp 37) (.tmp 39)), (some (35, true))⟩, 
         ⟨(some 41), (.pick (.tmp 35) (.tmp 40) (.const (.bool false))), none⟩, 
         ⟨(some 42), (.mv (.tmp 41)), none⟩, 
         ⟨(some 43), (.loadN 3 (.tmp 7)), (some (42, true))⟩, 
         ⟨(some 44), (.mv (.tmp 2)), (some (42, true))⟩, 
         ⟨(some 47), (.mv (.tmp 2)), (some (42, true))⟩])
        (.seq (.alt
          (.any [24, 25, 26, 27, 28, 29, 30, 31, 32, 33, 34, 35, 36, 37, 38, 39, 40, 41, 42, 43, 44, 45, 46, 47, 48, 49, 50, 51, 52, 53, 54, 55, 56, 57, 58, 59, 60, 61, 62, 63, 64, 65, 66, 6] [
           ⟨(some 45), (.callF 16 [(.tmp 43), (.tmp 44)]), (some (42, true))⟩, 
           ⟨(some 46), (.loadN 3 (.tmp 3)), (some (42, true))⟩])
          (.any [24, 25, 26, 27, 28, 29, 30, 31, 32, 33, 34, 35, 36, 37, 38, 39, 40, 41, 42, 43, 44, 45, 46, 47, 48, 49, 50, 51, 52, 53, 54, 55, 56, 57, 58, 59, 60, 61, 62, 63, 64, 65, 66, 6] [
           ⟨(some 46), (.loadN 3 (.tmp 3)), (some (42, true))⟩, 
           ⟨(some 45), (.callF 16 [(.tmp 43), (.tmp 44)]), (some (42, true))⟩]))
         (.seq (.any [24, 25, 26, 27, 28, 29, 30, 31, 32, 33, 34, 35, 36, 37, 38, 39, 40, 41, 42, 43, 44, 45, 46, 47, 48, 49, 50, 51, 52, 53, 54, 55, 56, 57, 58, 59, 60, 61, 62, 63, 64, 65, 66, 6] [
           ⟨(some 48), (.callF 17 [(.tmp 46), (.tmp 47)]), (some (42, true))⟩, 
           ⟨(some 49), (.bin .eql (.tmp 45) (.tmp 48)), (some (42, true))⟩, 
           ⟨(some 50), (.pick (.tmp 42) (.tmp 49) (.const (.bool false))), none⟩, 
           ⟨(some 51), (.mv (.tmp 50)), none⟩, 
           ⟨(some 53), (.loadN 3 (.tmp 4)), (some (51, true))⟩])
          (.seq (.alt
            (.seq (.any [24, 25, 26, 27, 28, 29, 30, 31, 32, 33, 34, 35, 36, 37, 38, 39, 40, 41, 42, 43, 44, 45, 46, 47, 48, 49, 50, 51, 52, 53, 54, 55, 56, 57, 58, 59, 60, 61, 62, 63, 64, 65, 66, 6] [
              ⟨(some 52), (.loadN 3 (.tmp 7)), (some (51, true))⟩])
             (.alt
              (.seq (.any [24, 25, 26, 27, 28, 29, 30, 31, 32, 33, 34, 35, 36, 37, 38, 39, 40, 41, 42, 43, 44, 45, 46, 47, 48, 49, 50, 51, 52, 53, 54, 55, 56, 57, 58, 59, 60, 61, 62, 63, 64, 65, 66, 6] [
                ⟨(some 54), (.callF 9 [(.tmp 53)]), (some (51, true))⟩])
               (.alt
                (.any [24, 25, 26, 27, 28, 29, 30, 31, 32, 33, 34, 35, 36, 37, 38, 39, 40, 41, 42, 43, 44, 45, 46, 47, 48, 49, 50, 51, 52, 53, 54, 55, 56, 57, 58, 59, 60, 61, 62, 63, 64, 65, 66, 6] [
                 ⟨(some 55), (.callF 18 [(.tmp 52), (.tmp 54)]), (some (51, true))⟩, 
                 ⟨(some 56), (.loadN 3 (.tmp 3)), (some (51, true))⟩, 
                 ⟨(some 57), (.loadN 3 (.tmp 4)), (some (51, true))⟩])
                (.alt
                 (.seq (.any [24, 25, 26, 27, 28, 29, 30, 31, 32, 33, 34, 35, 36, 37, 38, 39, 40, 41, 42, 43, 44, 45, 46, 47, 48, 49, 50, 51, 52, 53, 54, 55, 56, 57, 58, 59, 60, 61, 62, 63, 64, 65, 66, 6] [
                   ⟨(some 56), (.loadN 3 (.tmp 3)), (some (51, true))⟩])
                  (.alt
                   (.any [24, 25, 26, 27, 28, 29, 30, 31, 32, 33, 34, 35, 36, 37, 38, 39, 40, 41, 42, 43, 44, 45, 46, 47, 48, 49, 50, 51, 52, 53, 54, 55, 56, 57, 58, 59, 60, 61, 62, 63, 64, 65, 66, 6] [
                    ⟨(some 55), (.callF 18 [(.tmp 52), (.tmp 54)]), (some (51, true))⟩, 
                    ⟨(some 57), (.loadN 3 (.tmp 4)), (some (51, true))⟩])
                   (.any [24, 25, 26, 27, 28, 29, 30, 31, 32, 33, 34, 35, 36, 37, 38, 39, 40, 41, 42, 43, 44, 45, 46, 47, 48, 49, 50, 51, 52, 53, 54, 55, 56, 57, 58, 59, 60, 61, 62, 63, 64, 65, 66, 6] [
                    ⟨(some 57), (.loadN 3 (.tmp 4)), (some (51, true))⟩, 
                    ⟨(some 55), (.callF 18 [(.tmp 52), (.tmp 54)]), (some (51, true))⟩])))
                 (.seq (.any [24, 25, 26, 27, 28, 29, 30, 31, 32, 33, 34, 35, 36, 37, 38, 39, 40, 41, 42, 43, 44, 45, 46, 47, 48, 49, 50, 51, 52, 53, 54, 55, 56, 57, 58, 59, 60, 61, 62, 63, 64, 65, 66, 6] [
                   ⟨(some 57), (.loadN 3 (.tmp 4)), (some (51, true))⟩])
                  (.alt
                   (.any [24, 25, 26, 27, 28, 29, 30, 31, 32, 33, 34, 35, 36, 37, 38, 39, 40, 41, 42, 43, 44, 45, 46, 47, 48, 49, 50, 51, 52, 53, 54, 55, 56, 57, 58, 59, 60, 61, 62, 63, 64, 65, 66, 6] [
                    ⟨(some 55), (.callF 18 [(.tmp 52), (.tmp 54)]), (some (51, true))⟩, 
                    ⟨(some 56), (.loadN 3 (.tmp 3)), (some (51, true))⟩])
                   (.any [24, 25, 26, 27, 28, 29, 30, 31, 32, 33, 34, 35, 36, 37, 38, 39, 40, 41, 42, 43, 44, 45, 46, 47, 48, 49, 50, 51, 52, 53, 54, 55, 56, 57, 58, 59, 60, 61, 62, 63, 64, 65, 66, 6] [
                    ⟨(some 56), (.loadN 3 (.tmp 3)), (some (51, true))⟩, 
                    ⟨(some 55), (.callF 18 [(.tmp 52), (.tmp 54)]), (some (51, true))⟩]))))))
              (.alt
               (.seq (.any [24, 25, 26, 27, 28, 29, 30, 31, 32, 33, 34, 35, 36, 37, 38, 39, 40, 41, 42, 43, 44, 45, 46, 47, 48, 49, 50, 51, 52, 53, 54, 55, 56, 57, 58, 59, 60, 61, 62, 63, 64, 65, 66, 6] [
                 ⟨(some 56), (.loadN 3 (.tmp 3)), (some (51, true))⟩])
                (.alt
                 (.seq (.any [24, 25, 26, 27, 28, 29, 30, 31, 32, 33, 34, 35, 36, 37, 38, 39, 40, 41, 42, 43, 44, 45, 46, 47, 48, 49, 50, 51, 52, 53, 54, 55, 56, 57, 58, 59, 60, 61, 62, 63, 64, 65, 66, 6] [
                   ⟨(some 54), (.callF 9 [(.tmp 53)]), (some (51, true))⟩])
                  (.alt
                   (.any [24, 25, 26, 27, 28, 29, 30, 31, 32, 33, 34, 35, 36, 37, 38, 39, 40, 41, 42, 43, 44, 45, 46, 47, 48, 49, 50, 51, 52, 53, 54, 55, 56, 57, 58, 59, 60, 61, 62, 63, 64, 65, 66, 6] [
                    ⟨(some 55), (.callF 18 [(.tmp 52), (.tmp 54)]), (some (51, true))⟩, 
                    ⟨(some 57), (.loadN 3 (.tmp 4)), (some (51, true))⟩])
                   (.any [24, 25, 26, 27, 28, 29, 30, 31, 32, 33, 34, 35, 36, 37, 38, 39, 40, 41, 42, 43, 44, 45, 46, 47, 48, 49, 50, 51, 52, 53, 54, 55, 56, 57, 58, 59, 60, 61, 62, 63, 64, 65, 66, 6] [
                    ⟨(some 57), (.loadN 3 (.tmp 4)), (some (51, true))⟩, 
                    ⟨(some 55), (.callF 18 [(.tmp 52), (.tmp 54)]), (some (51, true))⟩])))
                 (.any [24, 25, 26, 27, 28, 29, 30, 31, 32, 33, 34, 35, 36, 37, 38, 39, 40, 41, 42, 43, 44, 45, 46, 47, 48, 49, 50, 51, 52, 53, 54, 55, 56, 57, 58, 59, 60, 61, 62, 63, 64, 65, 66, 6] [
                  ⟨(some 57), (.loadN 3 (.tmp 4)), (some (51, true))⟩, 
                  ⟨(some 54), (.callF 9 [(.tmp 53)]), (some (51, true))⟩, 
                  ⟨(some 55), (.callF 18 [(.tmp 52), (.tmp 54)]), (some (51, true))⟩])))
               (.seq (.any [24, 25, 26, 27, 28, 29, 30, 31, 32, 33, 34, 35, 36, 37, 38, 39, 40, 41, 42, 43, 44, 45, 46, 47, 48, 49, 50, 51, 52, 53, 54, 55, 56, 57, 58, 59, 60, 61, 62, 63, 64, 65, 66, 6] [
                 ⟨(some 57), (.loadN 3 (.tmp 4)), (some (51, true))⟩])
                (.alt
                 (.seq (.any [24, 25, 26, 27, 28, 29, 30, 31, 32, 33, 34, 35, 36, 37, 38, 39, 40, 41, 42, 43, 44, 45, 46, 47, 48, 49, 50, 51, 52, 53, 54, 55, 56, 57, 58, 59, 60, 61, 62, 63, 64, 65, 66, 6] [
                   ⟨(some 54), (.callF 9 [(.tmp 53)]), (some (51, true))⟩])
                  (.alt
                   (.any [24, 25, 26, 27, 28, 29, 30, 31, 32, 33, 34, 35, 36, 37, 38, 39, 40, 41, 42, 43, 44, 45, 46, 47, 48, 49, 50, 51, 52, 53, 54, 55, 56, 57, 58, 59, 60, 61, 62, 63, 64, 65, 66, 6] [
                    ⟨(some 55), (.callF 18 [(.tmp 52), (.tmp 54)]), (some (51, true))⟩, 
                    ⟨(some 56), (.loadN 3 (.tmp 3)), (some (51, true))⟩])
                   (.any [24, 25, 26, 27, 28, 29, 30, 31, 32, 33, 34, 35, 36, 37, 38, 39, 40, 41, 42, 43, 44, 45, 46, 47, 48, 49, 50, 51, 52, 53, 54, 55, 56, 57, 58, 59, 60, 61, 62, 63, 64, 65, 66, 6] [
                    ⟨(some 56), (.loadN 3 (.tmp 3)), (some (51, true))⟩, 
                    ⟨(some 55), (.callF 18 [(.tmp 52), (.tmp 54)]), (some (51, true))⟩])))
                 (.any [24, 25, 26, 27, 28, 29, 30, 31, 32, 33, 34, 35, 36, 37, 38, 39, 40, 41, 42, 43, 44, 45, 46, 47, 48, 49, 50, 51, 52, 53, 54, 55, 56, 57, 58, 59, 60, 61, 62, 63, 64, 65, 66, 6] [
                  ⟨(some 56), (.loadN 3 (.tmp 3)), (some (51, true))⟩, 
                  ⟨(some 54), (.callF 9 [(.tmp 53)]), (some (51, true))⟩, 
                  ⟨(some 55), (.callF 18 [(.tmp 52), (.tmp 54)]), (some (51, true))⟩]))))))
            (.alt
             (.seq (.any [24, 25, 26, 27, 28, 29, 30, 31, 32, 33, 34, 35, 36, 37, 38, 39, 40, 41, 42, 43, 44, 45, 46, 47, 48, 49, 50, 51, 52, 53, 54, 55, 56, 57, 58, 59, 60, 61, 62, 63, 64, 65, 66, 6] [
               ⟨(some 54), (.callF 9 [(.tmp 53)]), (some (51, true))⟩, 
               ⟨(some 52), (.loadN 3 (.tmp 7)), (some (51, true))⟩])
              (.alt
               (.any [24, 25, 26, 27, 28, 29, 30, 31, 32, 33, 34, 35, 36, 37, 38, 39, 40, 41, 42, 43, 44, 45, 46, 47, 48, 49, 50, 51, 52, 53, 54, 55, 56, 57, 58, 59, 60, 61, 62, 63, 64, 65, 66, 6] [
                ⟨(some 55), (.callF 18 [(.tmp 52), (.tmp 54)]), (some (51, true))⟩, 
                ⟨(some 56), (.loadN 3 (.tmp 3)), (some (51, true))⟩, 
                ⟨(some 57), (.loadN 3 (.tmp 4)), (some (51, true))⟩])
               (.alt
                (.seq (.any [24, 25, 26, 27, 28, 29, 30, 31, 32, 33, 34, 35, 36, 37, 38, 39, 40, 41, 42, 43, 44, 45, 46, 47, 48, 49, 50, 51, 52, 53, 54, 55, 56, 57, 58, 59, 60, 61, 62, 63, 64, 65, 66, 6] [
                  ⟨(some 56), (.loadN 3 (.tmp 3)), (some (51, true))⟩])
                 (.alt
                  (.any [24, 25, 26, 27, 28, 29, 30, 31, 32, 33, 34, 35, 36, 37, 38, 39, 40, 41, 42, 43, 44, 45, 46, 47, 48, 49, 50, 51, 52, 53, 54, 55, 56, 57, 58, 59, 60, 61, 62, 63, 64, 65, 66, 6] [
                   ⟨(some 55), (.callF 18 [(.tmp 52), (.tmp 54)]), (some (51, true))⟩, 
                   ⟨(some 57), (.loadN 3 (.tmp 4)), (some (51, true))⟩])
                  (.any [24, 25, 26, 27, 28, 29, 30, 31, 32, 33, 34, 35, 36, 37, 38, 39, 40, 41, 42, 43, 44, 45, 46, 47, 48, 49, 50, 51, 52, 53, 54, 55, 56, 57, 58, 59, 60, 61, 62, 63, 64, 65, 66, 6] [
                   ⟨(some 57), (.loadN 3 (.tmp 4)), (some (51, true))⟩, 
                   ⟨(some 55), (.callF 18 [(.tmp 52), (.tmp 54)]), (some (51, true))⟩])))
                (.seq (.any [24, 25, 26, 27, 28, 29, 30, 31, 32, 33, 34, 35, 36, 37, 38, 39, 40, 41, 42, 43, 44, 45, 46, 47, 48, 49, 50, 51, 52, 53, 54, 55, 56, 57, 58, 59, 60, 61, 62, 63, 64, 65, 66, 6] [
                  ⟨(some 57), (.loadN 3 (.tmp 4)), (some (51, true))⟩])
                 (.alt
                  (.any [24, 25, 26, 27, 28, 29, 30, 31, 32, 33, 34, 35, 36, 37, 38, 39, 40, 41, 42, 43, 44, 45, 46, 47, 48, 49, 50, 51, 52, 53, 54, 55, 56, 57, 58, 59, 60, 61, 62, 63, 64, 65, 66, 6] [
                   ⟨(some 55), (.callF 18 [(.tmp 52), (.tmp 54)]), (some (51, true))⟩, 
                   ⟨(some 56), (.loadN 3 (.tmp 3)), (some (51, true))⟩])
                  (.any [24, 25, 26, 27, 28, 29, 30, 31, 32, 33, 34, 35, 36, 37, 38, 39, 40, 41, 42, 43, 44, 45, 46, 47, 48, 49, 50, 51, 52, 53, 54, 55, 56, 57, 58, 59, 60, 61, 62, 63, 64, 65, 66, 6] [
                   ⟨(some 56), (.loadN 3 (.tmp 3)), (some (51, true))⟩, 
                   ⟨(some 55), (.callF 18 [(.tmp 52), (.tmp 54)]), (some (51, true))⟩]))))))
             (.alt
              (.seq (.any [24, 25, 26, 27, 28, 29, 30, 31, 32, 33, 34, 35, 36, 37, 38, 39, 40, 41, 42, 43, 44, 45, 46, 47, 48, 49, 50, 51, 52, 53, 54, 55, 56, 57, 58, 59, 60, 61, 62, 63, 64, 65, 66, 6] [
                ⟨(some 56), (.loadN 3 (.tmp 3)), (some (51, true))⟩])
               (.alt
                (.seq (.any [24, 25, 26, 27, 28, 29, 30, 31, 32, 33, 34, 35, 36, 37, 38, 39, 40, 41, 42, 43, 44, 45, 46, 47, 48, 49, 50, 51, 52, 53, 54, 55, 56, 57, 58, 59, 60, 61, 62, 63, 64, 65, 66, 6] [
                  ⟨(some 52), (.loadN 3 (.tmp 7)), (some (51, true))⟩])
                 (.alt
                  (.seq (.any [24, 25, 26, 27, 28, 29, 30, 31, 32, 33, 34, 35, 36, 37, 38, 39, 40, 41, 42, 43, 44, 45, 46, 47, 48, 49, 50, 51, 52, 53, 54, 55, 56, 57, 58, 59, 60, 61, 62, 63, 64, 65, 66, 6] [
                    ⟨(some 54), (.callF 9 [(.tmp 53)]), (some (51, true))⟩])
                   (.alt
                    (.any [24, 25, 26, 27, 28, 29, 30, 31, 32, 33, 34, 35, 36, 37, 38, 39, 40, 41, 42, 43, 44, 45, 46, 47, 48, 49, 50, 51, 52, 53, 54, 55, 56, 57, 58, 59, 60, 61, 62, 63, 64, 65, 66, 6] [
                     ⟨(some 55), (.callF 18 [(.tmp 52), (.tmp 54)]), (some (51, true))⟩, 
                     ⟨(some 57), (.loadN 3 (.tmp 4)), (some (51, true))⟩])
                    (.any [24, 25, 26, 27, 28, 29, 30, 31, 32, 33, 34, 35, 36, 37, 38, 39, 40, 41, 42, 43, 44, 45, 46, 47, 48, 49, 50, 51, 52, 53, 54, 55, 56, 57, 58, 59, 60, 61, 62, 63, 64, 65, 66, 6] [
                     ⟨(some 57), (.loadN 3 (.tmp 4)), (some (51, true))⟩, 
                     ⟨(some 55), (.callF 18 [(.tmp 52), (.tmp 54)]), (some (51, true))⟩])))
                  (.any [24, 25, 26, 27, 28, 29, 30, 31, 32, 33, 34, 35, 36, 37, 38, 39, 40, 41, 42, 43, 44, 45, 46, 47, 48, 49, 50, 51, 52, 53, 54, 55, 56, 57, 58, 59, 60, 61, 62, 63, 64, 65, 66, 6] [
                   ⟨(some 57), (.loadN 3 (.tmp 4)), (some (51, true))⟩, 
                   ⟨(some 54), (.callF 9 [(.tmp 53)]), (some (51, true))⟩, 
                   ⟨(some 55), (.callF 18 [(.tmp 52), (.tmp 54)]), (some (51, true))⟩])))
                (.alt
                 (.seq (.any [24, 25, 26, 27, 28, 29, 30, 31, 32, 33, 34, 35, 36, 37, 38, 39, 40, 41, 42, 43, 44, 45, 46, 47, 48, 49, 50, 51, 52, 53, 54, 55, 56, 57, 58, 59, 60, 61, 62, 63, 64, 65, 66, 6] [
                   ⟨(some 54), (.callF 9 [(.tmp 53)]), (some (51, true))⟩, 
                   ⟨(some 52), (.loadN 3 (.tmp 7)), (some (51, true))⟩])
                  (.alt
                   (.any [24, 25, 26, 27, 28, 29, 30, 31, 32, 33, 34, 35, 36, 37, 38, 39, 40, 41, 42, 43, 44, 45, 46, 47, 48, 49, 50, 51, 52, 53, 54, 55, 56, 57, 58, 59, 60, 61, 62, 63, 64, 65, 66, 6] [
                    ⟨(some 55), (.callF 18 [(.tmp 52), (.tmp 54)]), (some (51, true))⟩, 
                    ⟨(some 57), (.loadN 3 (.tmp 4)), (some (51, true))⟩])
                   (.any [24, 25, 26, 27, 28, 29, 30, 31, 32, 33, 34, 35, 36, 37, 38, 39, 40, 41, 42, 43, 44, 45, 46, 47, 48, 49, 50, 51, 52, 53, 54, 55, 56, 57, 58, 59, 60, 61, 62, 63, 64, 65, 66, 6] [
                    ⟨(some 57), (.loadN 3 (.tmp 4)), (some (51, true))⟩, 
                    ⟨(some 55), (.callF 18 [(.tmp 52), (.tmp 54)]), (some (51, true))⟩])))
                 (.seq (.any [24, 25, 26, 27, 28, 29, 30, 31, 32, 33, 34, 35, 36, 37, 38, 39, 40, 41, 42, 43, 44, 45, 46, 47, 48, 49, 50, 51, 52, 53, 54, 55, 56, 57, 58, 59, 60, 61, 62, 63, 64, 65, 66, 6] [
                   ⟨(some 57), (.loadN 3 (.tmp 4)), (some (51, true))⟩])
                  (.alt
                   (.any [24, 25, 26, 27, 28, 29, 30, 31, 32, 33, 34, 35, 36, 37, 38, 39, 40, 41, 42, 43, 44, 45, 46, 47, 48, 49, 50, 51, 52, 53, 54, 55, 56, 57, 58, 59, 60, 61, 62, 63, 64, 65, 66, 6] [
                    ⟨(some 52), (.loadN 3 (.tmp 7)), (some (51, true))⟩, 
                    ⟨(some 54), (.callF 9 [(.tmp 53)]), (some (51, true))⟩, 
                    ⟨(some 55), (.callF 18 [(.tmp 52), (.tmp 54)]), (some (51, true))⟩])
                   (.any [24, 25, 26, 27, 28, 29, 30, 31, 32, 33, 34, 35, 36, 37, 38, 39, 40, 41, 42, 43, 44, 45, 46, 47, 48, 49, 50, 51, 52, 53, 54, 55, 56, 57, 58, 59, 60, 61, 62, 63, 64, 65, 66, 6] [
                    ⟨(some 54), (.callF 9 [(.tmp 53)]), (some (51, true))⟩, 
                    ⟨(some 52), (.loadN 3 (.tmp 7)), (some (51, true))⟩, 
                    ⟨(some 55), (.callF 18 [(.tmp 52), (.tmp 54)]), (some (51, true))⟩]))))))
              (.seq (.any [24, 25, 26, 27, 28, 29, 30, 31, 32, 33, 34, 35, 36, 37, 38, 39, 40, 41, 42, 43, 44, 45, 46, 47, 48, 49, 50, 51, 52, 53, 54, 55, 56, 57, 58, 59, 60, 61, 62, 63, 64, 65, 66, 6] [
                ⟨(some 57), (.loadN 3 (.tmp 4)), (some (51, true))⟩])
               (.alt
                (.seq (.any [24, 25, 26, 27, 28, 29, 30, 31, 32, 33, 34, 35, 36, 37, 38, 39, 40, 41, 42, 43, 44, 45, 46, 47, 48, 49, 50, 51, 52, 53, 54, 55, 56, 57, 58, 59, 60, 61, 62, 63, 64, 65, 66, 6] [
                  ⟨(some 52), (.loadN 3 (.tmp 7)), (some (51, true))⟩])
                 (.alt
                  (.seq (.any [24, 25, 26, 27, 28, 29, 30, 31, 32, 33, 34, 35, 36, 37, 38, 39, 40, 41, 42, 43, 44, 45, 46, 47, 48, 49, 50, 51, 52, 53, 54, 55, 56, 57, 58, 59, 60, 61, 62, 63, 64, 65, 66, 6] [
                    ⟨(some 54), (.callF 9 [(.tmp 53)]), (some (51, true))⟩])
                   (.alt
                    (.any [24, 25, 26, 27, 28, 29, 30, 31, 32, 33, 34, 35, 36, 37, 38, 39, 40, 41, 42, 43, 44, 45, 46, 47, 48, 49, 50, 51, 52, 53, 54, 55, 56, 57, 58, 59, 60, 61, 62, 63, 64, 65, 66, 6] [
                     ⟨(some 55), (.callF 18 [(.tmp 52), (.tmp 54)]), (some (51, true))⟩, 
                     ⟨(some 56), (.loadN 3 (.tmp 3)), (some (51, true))⟩])
                    (.any [24, 25, 26, 27, 28, 29, 30, 31, 32, 33, 34, 35, 36, 37, 38, 39, 40, 41, 42, 43, 44, 45, 46, 47, 48, 49, 50, 51, 52, 53, 54, 55, 56, 57, 58, 59, 60, 61, 62, 63, 64, 65, 66, 6] [
                     ⟨(some 56), (.loadN 3 (.tmp 3)), (some (51, true))⟩, 
                     ⟨(some 55), (.callF 18 [(.tmp 52), (.tmp 54)]), (some (51, true))⟩])))
                  (.any [24, 25, 26, 27, 28, 29, 30, 31, 32, 33, 34, 35, 36, 37, 38, 39, 40, 41, 42, 43, 44, 45, 46, 47, 48, 49, 50, 51, 52, 53, 54, 55, 56, 57, 58, 59, 60, 61, 62, 63, 64, 65, 66, 6] [
                   ⟨(some 56), (.loadN 3 (.tmp 3)), (some (51, true))⟩, 
                   ⟨(some 54), (.callF 9 [(.tmp 53)]), (some (51, true))⟩, 
                   ⟨(some 55), (.callF 18 [(.tmp 52), (.tmp 54)]), (some (51, true))⟩])))
                (.alt
                 (.seq (.any [24, 25, 26, 27, 28, 29, 30, 31, 32, 33, 34, 35, 36, 37, 38, 39, 40, 41, 42, 43, 44, 45, 46, 47, 48, 49, 50, 51, 52, 53, 54, 55, 56, 57, 58, 59, 60, 61, 62, 63, 64, 65, 66, 6] [
                   ⟨(some 54), (.callF 9 [(.tmp 53)]), (some (51, true))⟩, 
                   ⟨(some 52), (.loadN 3 (.tmp 7)), (some (51, true))⟩])
                  (.alt
                   (.any [24, 25, 26, 27, 28, 29, 30, 31, 32, 33, 34, 35, 36, 37, 38, 39, 40, 41, 42, 43, 44, 45, 46, 47, 48, 49, 50, 51, 52, 53, 54, 55, 56, 57, 58, 59, 60, 61, 62, 63, 64, 65, 66, 6] [
                    ⟨(some 55), (.callF 18 [(.tmp 52), (.tmp 54)]), (some (51, true))⟩, 
                    ⟨(some 56), (.loadN 3 (.tmp 3)), (some (51, true))⟩])
                   (.any [24, 25, 26, 27, 28, 29, 30, 31, 32, 33, 34, 35, 36, 37, 38, 39, 40, 41, 42, 43, 44, 45, 46, 47, 48, 49, 50, 51, 52, 53, 54, 55, 56, 57, 58, 59, 60, 61, 62, 63, 64, 65, 66, 6] [
                    ⟨(some 56), (.loadN 3 (.tmp 3)), (some (51, true))⟩, 
                    ⟨(some 55), (.callF 18 [(.tmp 52), (.tmp 54)]), (some (51, true))⟩])))
                 (.seq (.any [24, 25, 26, 27, 28, 29, 30, 31, 32, 33, 34, 35, 36, 37, 38, 39, 40, 41, 42, 43, 44, 45, 46, 47, 48, 49, 50, 51, 52, 53, 54, 55, 56, 57, 58, 59, 60, 61, 62, 63, 64, 65, 66, 6] [
                   ⟨(some 56), (.loadN 3 (.tmp 3)), (some (51, true))⟩])
                  (.alt
                   (.any [24, 25, 26, 27, 28, 29, 30, 31, 32, 33, 34, 35, 36, 37, 38, 39, 40, 41, 42, 43, 44, 45, 46, 47, 48, 49, 50, 51, 52, 53, 54, 55, 56, 57, 58, 59, 60, 61, 62, 63, 64, 65, 66, 6] [
                    ⟨(some 52), (.loadN 3 (.tmp 7)), (some (51, true))⟩, 
                    ⟨(some 54), (.callF 9 [(.tmp 53)]), (some (51, true))⟩, 
                    ⟨(some 55), (.callF 18 [(.tmp 52), (.tmp 54)]), (some (51, true))⟩])
                   (.any [24, 25, 26, 27, 28, 29, 30, 31, 32, 33, 34, 35, 36, 37, 38, 39, 40, 41, 42, 43, 44, 45, 46, 47, 48, 49, 50, 51, 52, 53, 54, 55, 56, 57, 58, 59, 60, 61, 62, 63, 64, 65, 66, 6] [
                    ⟨(some 54), (.callF 9 [(.tmp 53)]), (some (51, true))⟩, 
                    ⟨(some 52), (.loadN 3 (.tmp 7)), (some (51, true))⟩, 
                    ⟨(some 55), (.callF 18 [(.tmp 52), (.tmp 54)]), (some (51, true))⟩])))))))))
           (.seq (.any [24, 25, 26, 27, 28, 29, 30, 31, 32, 33, 34, 35, 36, 37, 38, 39, 40, 41, 42, 43, 44, 45, 46, 47, 48, 49, 50, 51, 52, 53, 54, 55, 56, 57, 58, 59, 60, 61, 62, 63, 64, 65, 66, 6] [
             ⟨(some 58), (.callF 19 [(.tmp 56), (.tmp 57)]), (some (51, true))⟩, 
             ⟨(some 59), (.eqB false (.tmp 55) (.tmp 58)), (some (51, true))⟩, 
             ⟨(some 60), (.pick (.tmp 51) (.tmp 59) (.const (.bool false))), none⟩, 
             ⟨(some 61), (.mv (.tmp 60)), none⟩, 
             ⟨(some 62), (.loadN 3 (.tmp 7)), (some (61, true))⟩])
            (.seq (.alt
              (.any [24, 25, 26, 27, 28, 29, 30, 31, 32, 33, 34, 35, 36, 37, 38, 39, 40, 41, 42, 43, 44, 45, 46, 47, 48, 49, 50, 51, 52, 53, 54, 55, 56, 57, 58, 59, 60, 61, 62, 63, 64, 65, 66, 6] [
               ⟨(some 63), (.callF 20 [(.tmp 62)]), (some (61, true))⟩, 
               ⟨(some 64), (.loadN 3 (.tmp 3)), (some (61, true))⟩])
              (.any [24, 25, 26, 27, 28, 29, 30, 31, 32, 33, 34, 35, 36, 37, 38, 39, 40, 41, 42, 43, 44, 45, 46, 47, 48, 49, 50, 51, 52, 53, 54, 55, 56, 57, 58, 59, 60, 61, 62, 63, 64, 65, 66, 6] [
               ⟨(some 64), (.loadN 3 (.tmp 3)), (some (61, true))⟩, 
               ⟨(some 63), (.callF 20 [(.tmp 62)]), (some (61, true))⟩]))
             (.any [24, 25, 26, 27, 28, 29, 30, 31, 32, 33, 34, 35, 36, 37, 38, 39, 40, 41, 42, 43, 44, 45, 46, 47, 48, 49, 50, 51, 52, 53, 54, 55, 56, 57, 58, 59, 60, 61, 62, 63, 64, 65, 66, 6] [
              ⟨(some 65), (.callF 19 [(.tmp 63), (.tmp 64)]), (some (61, true))⟩, 
              ⟨(some 66), (.pick (.tmp 61) (.tmp 65) (.const (.bool false))), none⟩, 
              ⟨(some 6), (.mv (.tmp 66)), none⟩])))))))))
     .ret)))))
theorem c3 {args : Array Value} {h : Heap} {R : Ending → Heap → Prop} (ha : args.size ≤ 67) (hh : aexec Try.prog ac3 (abody [(.slot 6)] R) ⟨initFr args.toList, []⟩ h) : HCalls Try.prog 3 args h R :=
  hcalls_of Try.func3 rfl rfl (by kernel_rfl) (by kernel_rfl) ha hh
/-- 4: credenza/credenzalaw17.NodeReads -/
def ac4 : ACode :=
 (.seq (.ops [
  ⟨(some 2), (.mv (.const (.bool false))), none⟩])
 (.seq (.ops [
   ⟨(some 8), (.mv (.tmp 0)), none⟩, 
   ⟨(some 9), (.append 5 1 1 [(.int .u8 0)] (.const (.slice none 0 0)) (.tmp 8)), none⟩, 
   ⟨(some 3), (.mv (.tmp 9)), none⟩])
  (.seq (.ops [
    ⟨(some 11), (.mv (.tmp 3)), none⟩, 
    ⟨(some 12), (.callF 21 [(.tmp 11)]), none⟩, 
    ⟨(some 10), (.mv (.tmp 12)), none⟩, 
    ⟨(some 13), (.extract (.tmp 10) 0), none⟩, 
    ⟨(some 14), (.extract (.tmp 10) 1), none⟩, 
    ⟨(some 4), (.new 26 [(.slice none 0 0), (.slice none 0 0), (.slice none 0 0)]), none⟩, 
    ⟨none, (.storeN 3 (.tmp 4) (.tmp 13)), none⟩, 
    ⟨(some 5), (.mv (.tmp 14)), none⟩])
   (.seq (.ops [
     ⟨(some 16), (.mv (.tmp 0)), none⟩, 
     ⟨(some 17), (.callF 22 [(.tmp 16)]), none⟩, 
     ⟨(some 15), (.mv (.tmp 17)), none⟩, 
     ⟨(some 18), (.extract (.tmp 15) 0), none⟩, 
     ⟨(some 19), (.extract (.tmp 15) 1), none⟩, 
     ⟨(some 6), (.new 25 [(.slice none 0 0), (.slice none 0 0), (.slice none 0 0)]), none⟩, 
     ⟨none, (.storeN 3 (.tmp 6) (.tmp 18)), none⟩, 
     ⟨(some 7), (.mv (.tmp 19)), none⟩])
    (.seq (.seq (.any [20, 21, 22, 23, 24, 25, 26, 27, 28, 29, 30, 31, 32, 33, 34, 35, 36, 2] [
       ⟨(some 20), (.callF 12 []), none⟩, 
       ⟨(some 21), (.mv (.tmp 20)), none⟩, 
       ⟨(some 22), (.loadN 3 (.tmp 4)), (some (21, true))⟩])
      (.alt
       (.any [20, 21, 22, 23, 24, 25, 26, 27, 28, 29, 30, 31, 32, 33, 34, 35, 36, 2] [
        ⟨(some 23), (.callF 20 [(.tmp 22)]), (some (21, true))⟩, 
        ⟨(some 24), (.loadN 3 (.tmp 6)), (some (21, true))⟩, 
        ⟨(some 25), (.callF 19 [(.tmp 23), (.tmp 24)]), (some (21, true))⟩, 
        ⟨(some 26), (.pick (.tmp 21) (.tmp 25) (.const (.bool false))), none⟩, 
        ⟨(some 27), (.mv (.tmp 26)), none⟩, 
        ⟨(some 28), (.mv (.tmp 5)), (some (27, true))⟩, 
        ⟨(some 29), (.mv (.tmp 7)), (some (27, true))⟩, 
        ⟨(some 30), (.bin .eql (.tmp 28) (.tmp 29)), (some (27, true))⟩, 
        ⟨(some 31), (.pick (.tmp 27) (.tmp 30) (.const (.bool false))), none⟩, 
        ⟨(some 32), (.mv (.tmp 31)), none⟩, 
        ⟨(some 33), (.mv (.tmp 3)), (some (32, true))⟩, 
        ⟨(some 34), (.mv (.tmp 0)), (some (32, true))⟩, 
        ⟨(some 35), (.callF 13 [(.tmp 33), (.tmp 34)]), (some (32, true))⟩, 
        ⟨(some 36), (.pick (.tmp 32) (.tmp 35) (.const (.bool false))), none⟩, 
        ⟨(some 2), (.mv (.tmp 36)), none⟩])
       (.any [20, 21, 22, 23, 24, 25, 26, 27, 28, 29, 30, 31, 32, 33, 34, 35, 36, 2] [
        ⟨(some 24), (.loadN 3 (.tmp 6)), (some (21, true))⟩, 
        ⟨(some 23), (.callF 20 [(.tmp 22)]), (some (21, true))⟩, 
        ⟨(some 25), (.callF 19 [(.tmp 23), (.tmp 24)]), (some (21, true))⟩, 
        ⟨(some 26), (.pick (.tmp 21) (.tmp 25) (.const (.bool false))), none⟩, 
        ⟨(some 27), (.mv (.tmp 26)), none⟩, 
        ⟨(some 28), (.mv (.tmp 5)), (some (27, true))⟩, 
        ⟨(some 29), (.mv (.tmp 7)), (some (27, true))⟩, 
        ⟨(some 30), (.bin .eql (.tmp 28) (.tmp 29)), (some (27, true))⟩, 
        ⟨(some 31), (.pick (.tmp 27) (.tmp 30) (.const (.bool false))), none⟩, 
        ⟨(some 32), (.mv (.tmp 31)), none⟩, 
        ⟨(some 33), (.mv (.tmp 3)), (some (32, true))⟩, 
        ⟨(some 34), (.mv (.tmp 0)), (some (32, true))⟩, 
        ⟨(some 35), (.callF 13 [(.tmp 33), (.tmp 34)]), (some (32, true))⟩, 
        ⟨(some 36), (.pick (.tmp 32) (.tmp 35) (.const (.bool false))), none⟩, 
        ⟨(some 2), (.mv (.tmp 36)), none⟩])))
     .ret)))))
theorem c4 {args : Array Value} {h : Heap} {R : Ending → Heap → Prop} (ha : args.size ≤ 37) (hh : aexec Try.prog ac4 (abody [(.slot 2)] R) ⟨initFr args.toList, []⟩ h) : HCalls Try.prog 4 args h R :=
  hcalls_of Try.func4 rfl rfl (by kernel_rfl) (by kernel_rfl) ha hh
/-- 5: credenza/credenzalaw17.NodeFrames -/
def ac5 : ACode :=
 (.seq (.ops [
  ⟨(some 2), (.mv (.const (.bool false))), none⟩])
 (.seq (.ops [
   ⟨(some 9), (.callF 12 []), none⟩, 
   ⟨(some 3), (.mv (.tmp 9)), none⟩])
  (.seq (.seq (.ops [
     ⟨(some 10), (.mv (.tmp 0)), none⟩, 
     ⟨(some 11), (.lenSl (.tmp 10)), none⟩, 
     ⟨(some 12), (.bin .gtr (.tmp 11) (.const (.int .i64 4088))), none⟩])
    (.cond (.tmp 12)
     (.seq (.ops [
       ⟨(some 13), (.mv (.tmp 3)), none⟩, 
       ⟨(some 2), (.mv (.tmp 13)), none⟩])
      .ret)
     .skip))
   (.seq (.ops [
     ⟨(some 14), (.mv (.tmp 0)), none⟩, 
     ⟨(some 15), (.callF 23 [(.tmp 14)]), none⟩, 
     ⟨(some 4), (.mv (.tmp 15)), none⟩])
    (.seq (.ops [
      ⟨(some 16), (.mv (.tmp 4)), none⟩, 
      ⟨(some 17), (.mv (.tmp 4)), none⟩, 
      ⟨(some 18), (.lenSl (.tmp 17)), none⟩, 
      ⟨(some 19), (.bin .sub (.const (.int .i64 4096)) (.tmp 18)), none⟩, 
      ⟨(some 20), (.appendZ 5 1 1 [(.int .u8 0)] (.tmp 16) (.tmp 19)), none⟩, 
      ⟨(some 4), (.mv (.tmp 20)), none⟩])
     (.seq (.ops [
       ⟨(some 22), (.mv (.tmp 4)), none⟩, 
       ⟨(some 23), (.callF 21 [(.tmp 22)]), none⟩, 
       ⟨(some 21), (.mv (.tmp 23)), none⟩, 
       ⟨(some 24), (.extract (.tmp 21) 0), none⟩, 
       ⟨(some 25), (.extract (.tmp 21) 1), none⟩, 
       ⟨(some 5), (.new 26 [(.slice none 0 0), (.slice none 0 0), (.slice none 0 0)]), none⟩, 
       ⟨none, (.storeN 3 (.tmp 5) (.tmp 24)), none⟩, 
       ⟨(some 6), (.mv (.tmp 25)), none⟩])
      (.seq (.ops [
        ⟨(some 27), (.mv (.tmp 4)), none⟩, 
        ⟨(some 28), (.callF 22 [(.tmp 27)]), none⟩, 
        ⟨(some 26), (.mv (.tmp 28)), none⟩, 
        ⟨(some 29), (.extract (.tmp 26) 0), none⟩, 
        ⟨(some 30), (.extract (.tmp 26) 1), none⟩, 
        ⟨(some 7), (.new 25 [(.slice none 0 0), (.slice none 0 0), (.slice none 0 0)]), none⟩, 
        ⟨none, (.storeN 3 (.tmp 7) (.tmp 29)), none⟩, 
        ⟨(some 8), (.mv (.tmp 30)), none⟩])
       (.seq (.seq (.any [31, 32, 33, 34, 35, 36, 37, 38, 39, 40, 41, 42, 2] [
          ⟨(some 31), (.mv (.tmp 3)), none⟩, 
          ⟨(some 32), (.mv (.tmp 31)), none⟩, 
          ⟨(some 33), (.loadN 3 (.tmp 5)), (some (32, true))⟩])
         (.alt
          (.any [31, 32, 33, 34, 35, 36, 37, 38, 39, 40, 41, 42, 2] [
           ⟨(some 34), (.callF 20 [(.tmp 33)]), (some (32, true))⟩, 
           ⟨(some 35), (.loadN 3 (.tmp 7)), (some (32, true))⟩, 
           ⟨(some 36), (.callF 19 [(.tmp 34), (.tmp 35)]), (some (32, true))⟩, 
           ⟨(some 37), (.pick (.tmp 32) (.tmp 36) (.const (.bool false))), none⟩, 
           ⟨(some 38), (.mv (.tmp 37)), none⟩, 
           ⟨(some 39), (.mv (.tmp 6)), (some (38, true))⟩, 
           ⟨(some 40), (.mv (.tmp 8)), (some (38, true))⟩, 
           ⟨(some 41), (.bin .eql (.tmp 39) (.tmp 40)), (some (38, true))⟩, 
           ⟨(some 42), (.pick (.tmp 38) (.tmp 41) (.const (.bool false))), none⟩, 
           ⟨(some 2), (.mv (.tmp 42)), none⟩])
          (.any [31, 32, 33, 34, 35, 36, 37, 38, 39, 40, 41, 42, 2] [
           ⟨(some 35), (.loadN 3 (.tmp 7)), (some (32, true))⟩, 
           ⟨(some 34), (.callF 20 [(.tmp 33)]), (some (32, true))⟩, 
           ⟨(some 36), (.callF 19 [(.tmp 34), (.tmp 35)]), (some (32, true))⟩, 
           ⟨(some 37), (.pick (.tmp 32) (.tmp 36) (.const (.bool false))), none⟩, 
           ⟨(some 38), (.mv (.tmp 37)), none⟩, 
           ⟨(some 39), (.mv (.tmp 6)), (some (38, true))⟩, 
           ⟨(some 40), (.mv (.tmp 8)), (some (38, true))⟩, 
           ⟨(some 41), (.bin .eql (.tmp 39) (.tmp 40)), (some (38, true))⟩, 
           ⟨(some 42), (.pick (.tmp 38) (.tmp 41) (.const (.bool false))), none⟩, 
           ⟨(some 2), (.mv (.tmp 42)), none⟩])))
        .ret))))))))
theorem c5 {args : Array Value} {h : Heap} {R : Ending → Heap → Prop} (ha : args.size ≤ 43) (hh : aexec Try.prog ac5 (abody [(.slot 2)] R) ⟨initFr args.toList, []⟩ h) : HCalls Try.prog 5 args h R :=
  hcalls_of Try.func5 rfl rfl (by kernel_rfl) (by kernel_rfl) ha hh
/-- 6: credenza/credenzalaw17.NodeBack -/
def ac6 : ACode :=
 (.seq (.ops [
  ⟨(some 2), (.box 25 (.tmp 0)), none⟩, 
  ⟨(some 4), (.mv (.const (.bool false))), none⟩])
 (.seq (.ops [
   ⟨(some 15), (.callF 12 []), none⟩, 
   ⟨(some 5), (.mv (.tmp 15)), none⟩])
  (.seq (.ops [
    ⟨(some 17), (.loadN 3 (.tmp 2)), none⟩, 
    ⟨(some 18), (.callF 9 [(.tmp 17)]), none⟩, 
    ⟨(some 19), (.callF 10 [(.tmp 18)]), none⟩, 
    ⟨(some 16), (.mv (.tmp 19)), none⟩, 
    ⟨(some 20), (.extract (.tmp 16) 0), none⟩, 
    ⟨(some 21), (.extract (.tmp 16) 1), none⟩, 
    ⟨(some 6), (.mv (.tmp 20)), none⟩, 
    ⟨(some 7), (.mv (.tmp 21)), none⟩])
   (.seq (.seq (.ops [
      ⟨(some 22), (.mv (.tmp 7)), none⟩, 
      ⟨(some 23), (.bin .eql (.tmp 22) (.const (.int .i64 0))), none⟩])
     (.cond (.tmp 23)
      (.seq (.ops [
        ⟨(some 25), (.mv (.tmp 6)), none⟩, 
        ⟨(some 26), (.callF 21 [(.tmp 25)]), none⟩, 
        ⟨(some 24), (.mv (.tmp 26)), none⟩, 
        ⟨(some 27), (.extract (.tmp 24) 0), none⟩, 
        ⟨(some 28), (.extract (.tmp 24) 1), none⟩, 
        ⟨(some 8), (.new 26 [(.slice none 0 0), (.slice none 0 0), (.slice none 0 0)]), none⟩, 
        ⟨none, (.storeN 3 (.tmp 8) (.tmp 27)), none⟩, 
        ⟨(some 9), (.mv (.tmp 28)), none⟩])
       (.seq (.seq (.any [29, 30, 31, 32, 33, 34, 35, 36, 37] [
          ⟨(some 29), (.mv (.tmp 9)), none⟩, 
          ⟨(some 30), (.bin .neq (.tmp 29) (.const (.int .i64 0))), none⟩, 
          ⟨(some 31), (.mv (.tmp 30)), none⟩, 
          ⟨(some 32), (.loadN 3 (.tmp 8)), (some (31, false))⟩])
         (.alt
          (.any [29, 30, 31, 32, 33, 34, 35, 36, 37] [
           ⟨(some 33), (.callF 20 [(.tmp 32)]), (some (31, false))⟩, 
           ⟨(some 34), (.loadN 3 (.tmp 2)), (some (31, false))⟩, 
           ⟨(some 35), (.callF 19 [(.tmp 33), (.tmp 34)]), (some (31, false))⟩, 
           ⟨(some 36), (.un .not (.tmp 35)), (some (31, false))⟩, 
           ⟨(some 37), (.pick (.tmp 31) (.const (.bool true)) (.tmp 36)), none⟩])
          (.any [29, 30, 31, 32, 33, 34, 35, 36, 37] [
           ⟨(some 34), (.loadN 3 (.tmp 2)), (some (31, false))⟩, 
           ⟨(some 33), (.callF 20 [(.tmp 32)]), (some (31, false))⟩, 
           ⟨(some 35), (.callF 19 [(.tmp 33), (.tmp 34)]), (some (31, false))⟩, 
           ⟨(some 36), (.un .not (.tmp 35)), (some (31, false))⟩, 
           ⟨(some 37), (.pick (.tmp 31) (.const (.bool true)) (.tmp 36)), none⟩])))
        (.cond (.tmp 37)
         (.seq (.ops [
           ⟨(some 4), (.mv (.const (.bool false))), none⟩])
          .ret)
         .skip)))
      .skip))
    (.seq (.seq (.ops [
       ⟨(some 38), (.mv (.tmp 1)), none⟩, 
       ⟨(some 39), (.lenSl (.tmp 38)), none⟩, 
       ⟨(some 40), (.bin .gtr (.tmp 39) (.const (.int .i64 4088))), none⟩])
      (.cond (.tmp 40)
       (.seq (.ops [
         ⟨(some 41), (.mv (.tmp 5)), none⟩, 
         ⟨(some 4), (.mv (.tmp 41)), none⟩])
        .ret)
       .skip))
     (.seq (.ops [
       ⟨(some 42), (.mv (.tmp 1)), none⟩, 
       ⟨(some 43), (.callF 23 [(.tmp 42)]), none⟩, 
       ⟨(some 10), (.mv (.tmp 43)), none⟩])
      (.seq (.ops [
        ⟨(some 44), (.mv (.tmp 10)), none⟩, 
        ⟨(some 45), (.mv (.tmp 10)), none⟩, 
        ⟨(some 46), (.lenSl (.tmp 45)), none⟩, 
        ⟨(some 47), (.bin .sub (.const (.int .i64 4096)) (.tmp 46)), none⟩, 
        ⟨(some 48), (.appendZ 5 1 1 [(.int .u8 0)] (.tmp 44) (.tmp 47)), none⟩, 
        ⟨(some 10), (.mv (.tmp 48)), none⟩])
       (.seq (.ops [
         ⟨(some 50), (.mv (.tmp 10)), none⟩, 
         ⟨(some 51), (.callF 21 [(.tmp 50)]), none⟩, 
         ⟨(some 49), (.mv (.tmp 51)), none⟩, 
         ⟨(some 52), (.extract (.tmp 49) 0), none⟩, 
         ⟨(some 53), (.extract (.tmp 49) 1), none⟩, 
         ⟨(some 11), (.new 26 [(.slice none 0 0), (.slice none 0 0), (.slice none 0 0)]), none⟩, 
         ⟨none, (.storeN 3 (.tmp 11) (.tmp 52)), none⟩, 
         ⟨(some 12), (.mv (.tmp 53)), none⟩])
        (.seq (.seq (.ops [
           ⟨(some 54), (.mv (.tmp 12)), none⟩, 
           ⟨(some 55), (.bin .neq (.tmp 54) (.const (.int .i64 0))), none⟩])
          (.cond (.tmp 55)
           (.seq (.ops [
             ⟨(some 56), (.mv (.tmp 5)), none⟩, 
             ⟨(some 4), (.mv (.tmp 56)), none⟩])
            .ret)
           .skip))
         (.seq (.ops [
           ⟨(some 58), (.loadN 3 (.tmp 11)), none⟩, 
           ⟨(some 59), (.callF 10 [(.tmp 58)]), none⟩, 
           ⟨(some 57), (.mv (.tmp 59)), none⟩, 
           ⟨(some 60), (.extract (.tmp 57) 0), none⟩, 
           ⟨(some 61), (.extract (.tmp 57) 1), none⟩, 
           ⟨(some 13), (.mv (.tmp 60)), none⟩, 
           ⟨(some 14), (.mv (.tmp 61)), none⟩])
          (.seq (.ops [
            ⟨(some 62), (.mv (.tmp 5)), none⟩, 
            ⟨(some 63), (.mv (.tmp 62)), none⟩, 
            ⟨(some 64), (.mv (.tmp 14)), (some (63, true))⟩, 
            ⟨(some 65), (.bin .eql (.tmp 64) (.const (.int .i64 0))), (some (63, true))⟩, 
            ⟨(some 66), (.pick (.tmp 63) (.tmp 65) (.const (.bool false))), none⟩, 
            ⟨(some 67), (.mv (.tmp 66)), none⟩, 
            ⟨(some 68), (.mv (.tmp 13)), (some (67, true))⟩, 
            ⟨(some 69), (.mv (.tmp 10)), (some (67, true))⟩, 
            ⟨(some 70), (.callF 13 [(.tmp 68), (.tmp 69)]), (some (67, true))⟩, 
            ⟨(some 71), (.pick (.tmp 67) (.tmp 70) (.const (.bool false))), none⟩, 
            ⟨(some 4), (.mv (.tmp 71)), none⟩])
           .ret)))))))))))
theorem c6 {args : Array Value} {h : Heap} {R : Ending → Heap → Prop} (ha : args.size ≤ 72) (hh : aexec Try.prog ac6 (abody [(.slot 4)] R) ⟨initFr args.toList, []⟩ h) : HCalls Try.prog 6 args h R :=
  hcalls_of Try.func6 rfl rfl (by kernel_rfl) (by kernel_rfl) ha hh
/-- 7: credenza/credenzalaw17.NodeChild -/
def ac7 : ACode :=
 (.seq (.ops [
  ⟨(some 2), (.box 25 (.tmp 0)), none⟩, 
  ⟨(some 4), (.mv (.const (.bool false))), none⟩])
 (.seq (.ops [
   ⟨(some 9), (.callF 12 []), none⟩, 
   ⟨(some 5), (.mv (.tmp 9)), none⟩])
  (.seq (.seq (.ops [
     ⟨(some 10), (.loadN 3 (.tmp 2)), none⟩, 
     ⟨(some 11), (.callF 9 [(.tmp 10)]), none⟩, 
     ⟨(some 12), (.callF 14 [(.tmp 11)]), none⟩, 
     ⟨(some 13), (.bin .neq (.tmp 12) (.const (.int .i64 0))), none⟩])
    (.cond (.tmp 13)
     (.seq (.ops [
       ⟨(some 14), (.mv (.tmp 5)), none⟩, 
       ⟨(some 4), (.mv (.tmp 14)), none⟩])
      .ret)
     .skip))
   (.seq (.ops [
     ⟨(some 15), (.loadN 3 (.tmp 2)), none⟩, 
     ⟨(some 16), (.callF 9 [(.tmp 15)]), none⟩, 
     ⟨(some 17), (.mv (.tmp 1)), none⟩, 
     ⟨(some 18), (.callF 16 [(.tmp 16), (.tmp 17)]), none⟩, 
     ⟨(some 6), (.mv (.tmp 18)), none⟩])
    (.seq (.seq (.ops [
       ⟨(some 19), (.fieldAddr 0 (.tmp 2)), none⟩, 
       ⟨(some 20), (.load1 (.tmp 19)), none⟩, 
       ⟨(some 21), (.lenSl (.tmp 20)), none⟩, 
       ⟨(some 22), (.mv (.const (.int .i64 0))), none⟩])
      (.block 0
       (.loop
        (.seq (.ops [
          ⟨(some 23), (.bin .lss (.tmp 22) (.tmp 21)), none⟩])
         (.seq (.cond (.tmp 23)
           .skip
           (.exit 0))
          (.seq (.block 1
            (.seq (.ops [
              ⟨(some 24), (.mv (.tmp 22)), none⟩, 
              ⟨(some 25), (.idxSl 1 (.tmp 20) (.tmp 22)), none⟩, 
              ⟨(some 26), (.load1 (.tmp 25)), none⟩, 
              ⟨(some 7), (.mv (.tmp 24)), none⟩, 
              ⟨(some 8), (.mv (.tmp 26)), none⟩])
             (.seq (.ops [
               ⟨(some 27), (.mv (.tmp 8)), none⟩, 
               ⟨(some 28), (.mv (.tmp 1)), none⟩, 
               ⟨(some 29), (.bin .leq (.tmp 27) (.tmp 28)), none⟩, 
               ⟨(some 30), (.mv (.tmp 7)), none⟩, 
               ⟨(some 31), (.mv (.tmp 6)), none⟩, 
               ⟨(some 32), (.bin .lss (.tmp 30) (.tmp 31)), none⟩, 
               ⟨(some 33), (.eqB true (.tmp 29) (.tmp 32)), none⟩])
              (.cond (.tmp 33)
               (.seq (.ops [
                 ⟨(some 4), (.mv (.const (.bool false))), none⟩])
                .ret)
               .skip))))
           (.ops [
            ⟨(some 34), (.bin .add (.tmp 22) (.const (.int .i64 1))), none⟩, 
            ⟨(some 22), (.mv (.tmp 34)), none⟩])))))))
     (.seq (.ops [
       ⟨(some 35), (.mv (.tmp 5)), none⟩, 
       ⟨(some 36), (.mv (.tmp 35)), none⟩, 
       ⟨(some 37), (.mv (.tmp 6)), (some (36, true))⟩, 
       ⟨(some 38), (.bin .geq (.tmp 37) (.const (.int .i64 0))), (some (36, true))⟩, 
       ⟨(some 39), (.pick (.tmp 36) (.tmp 38) (.const (.bool false))), none⟩, 
       ⟨(some 40), (.mv (.tmp 39)), none⟩, 
       ⟨(some 41), (.mv (.tmp 6)), (some (40, true))⟩, 
       ⟨(some 42), (.fieldAddr 0 (.tmp 2)), (some (40, true))⟩, 
       ⟨(some 43), (.load1 (.tmp 42)), (some (40, true))⟩, 
       ⟨(some 44), (.lenSl (.tmp 43)), (some (40, true))⟩, 
       ⟨(some 45), (.bin .leq (.tmp 41) (.tmp 44)), (some (40, true))⟩, 
       ⟨(some 46), (.pick (.tmp 40) (.tmp 45) (.const (.bool false))), none⟩, 
       ⟨(some 4), (.mv (.tmp 46)), none⟩])
      .ret))))))
theorem c7 {args : Array Value} {h : Heap} {R : Ending → Heap → Prop} (ha : args.size ≤ 47) (hh : aexec Try.prog ac7 (abody [(.slot 4)] R) ⟨initFr args.toList, []⟩ h) : HCalls Try.prog 7 args h R :=
  hcalls_of Try.func7 rfl rfl (by kernel_rfl) (by kernel_rfl) ha hh
/-- 8: credenza/credenzalaw17.NodeTurns -/
def ac8 : ACode :=
 (.seq (.ops [
  ⟨(some 3), (.box 25 (.tmp 0)), none⟩, 
  ⟨(some 6), (.mv (.const (.bool false))), none⟩])
 (.seq (.ops [
   ⟨(some 12), (.callF 12 []), none⟩, 
   ⟨(some 7), (.mv (.tmp 12)), none⟩])
  (.seq (.ops [
    ⟨(some 14), (.loadN 3 (.tmp 3)), none⟩, 
    ⟨(some 15), (.callF 9 [(.tmp 14)]), none⟩, 
    ⟨(some 16), (.callF 10 [(.tmp 15)]), none⟩, 
    ⟨(some 13), (.mv (.tmp 16)), none⟩, 
    ⟨(some 17), (.extract (.tmp 13) 0), none⟩, 
    ⟨(some 18), (.extract (.tmp 13) 1), none⟩, 
    ⟨(some 8), (.mv (.tmp 17)), none⟩, 
    ⟨(some 9), (.mv (.tmp 18)), none⟩])
   (.seq (.seq (.ops [
      ⟨(some 19), (.mv (.tmp 9)), none⟩, 
      ⟨(some 20), (.bin .neq (.tmp 19) (.const (.int .i64 0))), none⟩, 
      ⟨(some 21), (.mv (.tmp 20)), none⟩, 
      ⟨(some 22), (.mv (.tmp 2)), (some (21, false))⟩, 
      ⟨(some 23), (.bin .eql (.tmp 22) (.const (.int .u8 0))), (some (21, false))⟩, 
      ⟨(some 24), (.pick (.tmp 21) (.const (.bool true)) (.tmp 23)), none⟩])
     (.cond (.tmp 24)
      (.seq (.ops [
        ⟨(some 25), (.mv (.tmp 7)), none⟩, 
        ⟨(some 6), (.mv (.tmp 25)), none⟩])
       .ret)
      .skip))
    (.seq (.seq (.ops [
       ⟨(some 26), (.mv (.tmp 8)), none⟩, 
       ⟨(some 27), (.lenSl (.tmp 26)), none⟩, 
       ⟨(some 28), (.bin .neq (.tmp 27) (.const (.int .i64 4096))), none⟩])
      (.cond (.tmp 28)
       (.seq (.ops [
         ⟨(some 6), (.mv (.const (.bool false))), none⟩])
        .ret)
       .skip))
     (.seq (.ops [
       ⟨(some 29), (.mv (.tmp 8)), none⟩, 
       ⟨(some 30), (.mv (.tmp 1)), none⟩, 
       ⟨(some 31), (.bin .rem (.tmp 30) (.const (.int .i64 4096))), none⟩, 
       ⟨(some 32), (.bin .add (.tmp 31) (.const (.int .i64 4096))), none⟩, 
       ⟨(some 33), (.bin .rem (.tmp 32) (.const (.int .i64 4096))), none⟩, 
       ⟨(some 34), (.idxSl 1 (.tmp 29) (.tmp 33)), none⟩, 
       ⟨(some 35), (.load1 (.tmp 34)), none⟩, 
       ⟨(some 36), (.mv (.tmp 2)), none⟩, 
       ⟨(some 37), (.bin .xor (.tmp 35) (.tmp 36)), none⟩, 
       ⟨(some 38), (.idxSl 1 (.tmp 29) (.tmp 33)), none⟩, 
       ⟨none, (.store1 (.tmp 38) (.tmp 37)), none⟩])
      (.seq (.ops [
        ⟨(some 40), (.mv (.tmp 8)), none⟩, 
        ⟨(some 41), (.callF 21 [(.tmp 40)]), none⟩, 
        ⟨(some 39), (.mv (.tmp 41)), none⟩, 
        ⟨(some 42), (.extract (.tmp 39) 0), none⟩, 
        ⟨(some 43), (.extract (.tmp 39) 1), none⟩, 
        ⟨(some 10), (.new 26 [(.slice none 0 0), (.slice none 0 0), (.slice none 0 0)]), none⟩, 
        ⟨none, (.storeN 3 (.tmp 10) (.tmp 42)), none⟩, 
        ⟨(some 11), (.mv (.tmp 43)), none⟩])
       (.seq (.ops [
         ⟨(some 44), (.mv (.tmp 7)), none⟩, 
         ⟨(some 45), (.mv (.tmp 44)), none⟩, 
         ⟨(some 46), (.mv (.tmp 11)), (some (45, true))⟩, 
         ⟨(some 47), (.bin .neq (.tmp 46) (.const (.int .i64 0))), (some (45, true))⟩, 
         ⟨(some 48), (.pick (.tmp 45) (.tmp 47) (.const (.bool false))), none⟩, 
         ⟨(some 6), (.mv (.tmp 48)), none⟩])
        .ret))))))))
theorem c8 {args : Array Value} {h : Heap} {R : Ending → Heap → Prop} (ha : args.size ≤ 49) (hh : aexec Try.prog ac8 (abody [(.slot 6)] R) ⟨initFr args.toList, []⟩ h) : HCalls Try.prog 8 args h R :=
  hcalls_of Try.func8 rfl rfl (by kernel_rfl) (by kernel_rfl) ha hh
/-- 9: credenza/credenzalaw17.own -/
def ac9 : ACode :=
 (.seq (.ops [
  ⟨(some 1), (.box 25 (.tmp 0)), none⟩, 
  ⟨(some 2), (.new 26 [(.slice none 0 0), (.slice none 0 0), (.slice none 0 0)]), none⟩])
 (.seq (.any [3, 4, 5, 6, 7, 8, 9, 10, 11, 12] [
   ⟨(some 3), (.fieldAddr 0 (.tmp 1)), none⟩, 
   ⟨(some 4), (.load1 (.tmp 3)), none⟩, 
   ⟨(some 6), (.fieldAddr 1 (.tmp 1)), none⟩, 
   ⟨(some 7), (.load1 (.tmp 6)), none⟩, 
   ⟨(some 9), (.fieldAddr 2 (.tmp 1)), none⟩, 
   ⟨(some 10), (.load1 (.tmp 9)), none⟩, 
   ⟨(some 5), (.append 9 1 16 [(.string ⟨#[]⟩)] (.const (.slice none 0 0)) (.tmp 4)), none⟩, 
   ⟨(some 8), (.append 9 1 16 [(.string ⟨#[]⟩)] (.const (.slice none 0 0)) (.tmp 7)), none⟩, 
   ⟨(some 11), (.append 3 1 8 [(.int .i64 0)] (.const (.slice none 0 0)) (.tmp 10)), none⟩, 
   ⟨(some 12), (.build [(.slice none 0 0), (.slice none 0 0), (.slice none 0 0)] [(0, 1, (.tmp 5)), (1, 1, (.tmp 8)), (2, 1, (.tmp 11))]), none⟩, 
   ⟨none, (.storeN 3 (.tmp 2) (.tmp 12)), none⟩])
  .ret))
theorem c9 {args : Array Value} {h : Heap} {R : Ending → Heap → Prop} (ha : args.size ≤ 13) (hh : aexec Try.prog ac9 (abody [(.cellN 2 3)] R) ⟨initFr args.toList, []⟩ h) : HCalls Try.prog 9 args h R :=
  hcalls_of Try.func9 rfl rfl (by kernel_rfl) (by kernel_rfl) ha hh
/-- 10: credenza/node.Encode -/
def ac10 : ACode :=
 (.seq (.ops [
  ⟨(some 1), (.box 26 (.tmp 0)), none⟩, 
  ⟨(some 2), (.mv (.const (.slice none 0 0))), none⟩, 
  ⟨(some 3), (.mv (.const (.int .i64 0))), none⟩])
 (.seq (.seq (.ops [
    ⟨(some 11), (.loadN 3 (.tmp 1)), none⟩, 
    ⟨(some 12), (.callF 14 [(.tmp 11)]), none⟩, 
    ⟨(some 4), (.mv (.tmp 12)), none⟩])
   (.seq (.ops [
     ⟨(some 13), (.mv (.tmp 4)), none⟩, 
     ⟨(some 14), (.bin .neq (.tmp 13) (.const (.int .i64 0))), none⟩])
    (.cond (.tmp 14)
     (.seq (.ops [
       ⟨(some 15), (.mv (.tmp 4)), none⟩, 
       ⟨(some 2), (.mv (.const (.slice none 0 0))), none⟩, 
       ⟨(some 3), (.mv (.tmp 15)), none⟩])
      .ret)
     .skip)))
  (.seq (.ops [
    ⟨(some 16), (.fieldAddr 0 (.tmp 1)), none⟩, 
    ⟨(some 17), (.load1 (.tmp 16)), none⟩, 
    ⟨(some 18), (.lenSl (.tmp 17)), none⟩, 
    ⟨(some 19), (.convInt .u8 (.tmp 18)), none⟩, 
    ⟨(some 20), (.buildSlice 5 2 [(.int .u8 0), (.int .u8 0)] [(0, 1, (.const (.int .u8 0))), (1, 1, (.tmp 19))]), none⟩, 
    ⟨(some 5), (.mv (.tmp 20)), none⟩])
   (.seq (.seq (.ops [
      ⟨(some 21), (.fieldAddr 2 (.tmp 1)), none⟩, 
      ⟨(some 22), (.load1 (.tmp 21)), none⟩, 
      ⟨(some 23), (.lenSl (.tmp 22)), none⟩, 
      ⟨(some 24), (.bin .gtr (.tmp 23) (.const (.int .i64 0))), none⟩])
     (.cond (.tmp 24)
      (.ops [
       ⟨(some 25), (.fieldAddr 2 (.tmp 1)), none⟩, 
       ⟨(some 26), (.load1 (.tmp 25)), none⟩, 
       ⟨(some 27), (.lenSl (.tmp 26)), none⟩, 
       ⟨(some 28), (.convInt .u8 (.tmp 27)), none⟩, 
       ⟨(some 29), (.buildSlice 5 2 [(.int .u8 0), (.int .u8 0)] [(0, 1, (.const (.int .u8 1))), (1, 1, (.tmp 28))]), none⟩, 
       ⟨(some 5), (.mv (.tmp 29)), none⟩])
      .skip))
    (.seq (.seq (.ops [
       ⟨(some 30), (.fieldAddr 2 (.tmp 1)), none⟩, 
       ⟨(some 31), (.load1 (.tmp 30)), none⟩, 
       ⟨(some 32), (.lenSl (.tmp 31)), none⟩, 
       ⟨(some 33), (.mv (.const (.int .i64 0))), none⟩])
      (.block 0
       (.loop
        (.seq (.ops [
          ⟨(some 34), (.bin .lss (.tmp 33) (.tmp 32)), none⟩])
         (.seq (.cond (.tmp 34)
           .skip
           (.exit 0))
          (.seq (.block 1
            (.seq (.ops [
              ⟨(some 35), (.idxSl 1 (.tmp 31) (.tmp 33)), none⟩, 
              ⟨(some 36), (.load1 (.tmp 35)), none⟩, 
              ⟨(some 7), (.mv (.tmp 36)), none⟩])
             (.ops [
              ⟨(some 37), (.mv (.tmp 5)), none⟩, 
              ⟨(some 38), (.mv (.tmp 7)), none⟩, 
              ⟨(some 39), (.convInt .u64 (.tmp 38)), none⟩, 
              ⟨(some 40), (.callF 24 [(.tmp 39)]), none⟩, 
              ⟨(some 41), (.append 5 1 1 [(.int .u8 0)] (.tmp 37) (.tmp 40)), none⟩, 
              ⟨(some 5), (.mv (.tmp 41)), none⟩])))
           (.ops [
            ⟨(some 42), (.bin .add (.tmp 33) (.const (.int .i64 1))), none⟩, 
            ⟨(some 33), (.mv (.tmp 42)), none⟩])))))))
     (.seq (.seq (.ops [
        ⟨(some 43), (.fieldAddr 0 (.tmp 1)), none⟩, 
        ⟨(some 44), (.load1 (.tmp 43)), none⟩, 
        ⟨(some 45), (.lenSl (.tmp 44)), none⟩, 
        ⟨(some 46), (.mv (.const (.int .i64 0))), none⟩])
       (.block 2
        (.loop
         (.seq (.ops [
           ⟨(some 47), (.bin .lss (.tmp 46) (.tmp 45)), none⟩])
          (.seq (.cond (.tmp 47)
            .skip
            (.exit 2))
           (.seq (.block 3
             (.seq (.ops [
               ⟨(some 48), (.mv (.tmp 46)), none⟩, 
               ⟨(some 49), (.idxSl 1 (.tmp 44) (.tmp 46)), none⟩, 
               ⟨(some 50), (.load1 (.tmp 49)), none⟩, 
               ⟨(some 8), (.mv (.tmp 48)), none⟩, 
               ⟨(some 9), (.mv (.tmp 50)), none⟩])
              (.seq (.ops [
                ⟨(some 51), (.mv (.tmp 5)), none⟩, 
                ⟨(some 52), (.mv (.tmp 9)), none⟩, 
                ⟨(some 53), (.callF 25 [(.tmp 52)]), none⟩, 
                ⟨(some 54), (.append 5 1 1 [(.int .u8 0)] (.tmp 51) (.tmp 53)), none⟩, 
                ⟨(some 5), (.mv (.tmp 54)), none⟩])
               (.seq (.ops [
                 ⟨(some 55), (.fieldAddr 2 (.tmp 1)), none⟩, 
                 ⟨(some 56), (.load1 (.tmp 55)), none⟩, 
                 ⟨(some 57), (.lenSl (.tmp 56)), none⟩, 
                 ⟨(some 58), (.bin .eql (.tmp 57) (.const (.int .i64 0))), none⟩])
                (.cond (.tmp 58)
                 (.ops [
                  ⟨(some 59), (.mv (.tmp 5)), none⟩, 
                  ⟨(some 60), (.fieldAddr 1 (.tmp 1)), none⟩, 
                  ⟨(some 61), (.load1 (.tmp 60)), none⟩, 
                  ⟨(some 62), (.mv (.tmp 8)), none⟩, 
                  ⟨(some 63), (.idxSl 1 (.tmp 61) (.tmp 62)), none⟩, 
                  ⟨(some 64), (.load1 (.tmp 63)), none⟩, 
                  ⟨(some 65), (.callF 25 [(.tmp 64)]), none⟩, 
                  ⟨(some 66), (.append 5 1 1 [(.int .u8 0)] (.tmp 59) (.tmp 65)), none⟩, 
                  ⟨(some 5), (.mv (.tmp 66)), none⟩])
                 .skip)))))
            (.ops [
             ⟨(some 67), (.bin .add (.tmp 46) (.const (.int .i64 1))), none⟩, 
             ⟨(some 46), (.mv (.tmp 67)), none⟩])))))))
      (.seq (.ops [
        ⟨(some 68), (.mkSlice 5 1 1 [(.int .u8 0)] (.const (.int .i64 4096)) (.const (.int .i64 4096))), none⟩, 
        ⟨(some 10), (.mv (.tmp 68)), none⟩])
       (.seq (.ops [
         ⟨(some 69), (.mv (.tmp 10)), none⟩, 
         ⟨(some 70), (.mv (.tmp 5)), none⟩, 
         ⟨(some 71), (.callF 26 [(.tmp 70)]), none⟩, 
         ⟨(some 72), (.copy 1 (.tmp 69) (.tmp 71)), none⟩])
        (.seq (.ops [
          ⟨(some 73), (.mv (.tmp 10)), none⟩, 
          ⟨(some 2), (.mv (.tmp 73)), none⟩, 
          ⟨(some 3), (.mv (.const (.int .i64 0))), none⟩])
         .ret)))))))))
theorem c10 {args : Array Value} {h : Heap} {R : Ending → Heap → Prop} (ha : args.size ≤ 74) (hh : aexec Try.prog ac10 (abody [(.slot 2), (.slot 3)] R) ⟨initFr args.toList, []⟩ h) : HCalls Try.prog 10 args h R :=
  hcalls_of Try.func10 rfl rfl (by kernel_rfl) (by kernel_rfl) ha hh
/-- 11: credenza/credenzaref17.Encode -/
def ac11 : ACode :=
 (.seq (.ops [
  ⟨(some 1), (.box 25 (.tmp 0)), none⟩, 
  ⟨(some 2), (.mv (.const (.slice none 0 0))), none⟩, 
  ⟨(some 3), (.mv (.const (.int .i64 0))), none⟩])
 (.seq (.seq (.ops [
    ⟨(some 5), (.loadN 3 (.tmp 1)), none⟩, 
    ⟨(some 6), (.callF 27 [(.tmp 5)]), none⟩, 
    ⟨(some 7), (.un .not (.tmp 6)), none⟩])
   (.cond (.tmp 7)
    (.seq (.ops [
      ⟨(some 2), (.mv (.const (.slice none 0 0))), none⟩, 
      ⟨(some 3), (.mv (.const (.int .i64 190))), none⟩])
     .ret)
    .skip))
  (.seq (.ops [
    ⟨(some 8), (.loadN 3 (.tmp 1)), none⟩, 
    ⟨(some 9), (.callF 28 [(.tmp 8)]), none⟩, 
    ⟨(some 10), (.callF 23 [(.tmp 9)]), none⟩, 
    ⟨(some 4), (.mv (.tmp 10)), none⟩])
   (.seq (.ops [
     ⟨(some 11), (.mv (.tmp 4)), none⟩, 
     ⟨(some 12), (.mv (.tmp 4)), none⟩, 
     ⟨(some 13), (.lenSl (.tmp 12)), none⟩, 
     ⟨(some 14), (.bin .sub (.const (.int .i64 4096)) (.tmp 13)), none⟩, 
     ⟨(some 15), (.appendZ 5 1 1 [(.int .u8 0)] (.tmp 11) (.tmp 14)), none⟩, 
     ⟨(some 2), (.mv (.tmp 15)), none⟩, 
     ⟨(some 3), (.mv (.const (.int .i64 0))), none⟩])
    .ret))))
theorem c11 {args : Array Value} {h : Heap} {R : Ending → Heap → Prop} (ha : args.size ≤ 16) (hh : aexec Try.prog ac11 (abody [(.slot 2), (.slot 3)] R) ⟨initFr args.toList, []⟩ h) : HCalls Try.prog 11 args h R :=
  hcalls_of Try.func11 rfl rfl (by kernel_rfl) (by kernel_rfl) ha hh
/-- 12: credenza/credenzalaw17.live -/
def ac12 : ACode :=
 (.seq (.ops [
  ⟨(some 0), (.mv (.const (.bool false))), none⟩])
 (.seq (.ops [
   ⟨(some 8), (.buildSlice 9 1 [(.string ⟨#[]⟩)] [(0, 1, (.const (.string ⟨#[107]⟩)))]), none⟩, 
   ⟨(some 9), (.buildSlice 9 1 [(.string ⟨#[]⟩)] [(0, 1, (.const (.string ⟨#[118]⟩)))]), none⟩, 
   ⟨(some 10), (.build [(.slice none 0 0), (.slice none 0 0), (.slice none 0 0)] [(0, 1, (.tmp 8)), (1, 1, (.tmp 9))]), none⟩, 
   ⟨(some 1), (.new 26 [(.slice none 0 0), (.slice none 0 0), (.slice none 0 0)]), none⟩, 
   ⟨none, (.storeN 3 (.tmp 1) (.tmp 10)), none⟩])
  (.seq (.ops [
    ⟨(some 12), (.loadN 3 (.tmp 1)), none⟩, 
    ⟨(some 13), (.callF 10 [(.tmp 12)]), none⟩, 
    ⟨(some 11), (.mv (.tmp 13)), none⟩, 
    ⟨(some 14), (.extract (.tmp 11) 0), none⟩, 
    ⟨(some 15), (.extract (.tmp 11) 1), none⟩, 
    ⟨(some 2), (.mv (.tmp 14)), none⟩, 
    ⟨(some 3), (.mv (.tmp 15)), none⟩])
   (.seq (.ops [
     ⟨(some 17), (.mv (.tmp 2)), none⟩, 
     ⟨(some 18), (.callF 21 [(.tmp 17)]), none⟩, 
     ⟨(some 16), (.mv (.tmp 18)), none⟩, 
     ⟨(some 19), (.extract (.tmp 16) 0), none⟩, 
     ⟨(some 20), (.extract (.tmp 16) 1), none⟩, 
     ⟨(some 4), (.new 26 [(.slice none 0 0), (.slice none 0 0), (.slice none 0 0)]), none⟩, 
     ⟨none, (.storeN 3 (.tmp 4) (.tmp 19)), none⟩, 
     ⟨(some 5), (.mv (.tmp 20)), none⟩])
    (.seq (.ops [
      ⟨(some 22), (.mkSlice 5 1 1 [(.int .u8 0)] (.const (.int .i64 4096)) (.const (.int .i64 4096))), none⟩, 
      ⟨(some 23), (.callF 21 [(.tmp 22)]), none⟩, 
      ⟨(some 21), (.mv (.tmp 23)), none⟩, 
      ⟨(some 24), (.extract (.tmp 21) 0), none⟩, 
      ⟨(some 25), (.extract (.tmp 21) 1), none⟩, 
      ⟨(some 6), (.new 26 [(.slice none 0 0), (.slice none 0 0), (.slice none 0 0)]), none⟩, 
      ⟨none, (.storeN 3 (.tmp 6) (.tmp 24)), none⟩, 
      ⟨(some 7), (.mv (.tmp 25)), none⟩])
     (.seq (.seq (.any [26, 27, 28, 29, 30, 31, 32, 33, 34, 35, 36, 37, 38, 39, 40, 41, 42, 43, 44, 45, 46, 47, 48, 49, 50, 51, 52, 53, 54, 55, 56, 57, 58, 0] [
        ⟨(some 26), (.mv (.tmp 3)), none⟩, 
        ⟨(some 27), (.bin .eql (.tmp 26) (.const (.int .i64 0))), none⟩, 
        ⟨(some 28), (.mv (.tmp 27)), none⟩, 
        ⟨(some 29), (.mv (.tmp 5)), (some (28, true))⟩, 
        ⟨(some 30), (.bin .eql (.tmp 29) (.const (.int .i64 0))), (some (28, true))⟩, 
        ⟨(some 31), (.pick (.tmp 28) (.tmp 30) (.const (.bool false))), none⟩, 
        ⟨(some 32), (.mv (.tmp 31)), none⟩, 
        ⟨(some 33), (.loadN 3 (.tmp 4)), (some (32, true))⟩])
       (.seq (.alt
         (.any [26, 27, 28, 29, 30, 31, 32, 33, 34, 35, 36, 37, 38, 39, 40, 41, 42, 43, 44, 45, 46, 47, 48, 49, 50, 51, 52, 53, 54, 55, 56, 57, 58, 0] [
          ⟨(some 34), (.callF 20 [(.tmp 33)]), (some (32, true))⟩, 
          ⟨(some 35), (.loadN 3 (.tmp 1)), (some (32, true))⟩])
         (.any [26, 27, 28, 29, 30, 31, 32, 33, 34, 35, 36, 37, 38, 39, 40, 41, 42, 43, 44, 45, 46, 47, 48, 49, 50, 51, 52, 53, 54, 55, 56, 57, 58, 0] [
          ⟨(some 35), (.loadN 3 (.tmp 1)), (some (32, true))⟩, 
          ⟨(some 34), (.callF 20 [(.tmp 33)]), (some (32, true))⟩]))
        (.any [26, 27, 28, 29, 30, 31, 32, 33, 34, 35, 36, 37, 38, 39, 40, 41, 42, 43, 44, 45, 46, 47, 48, 49, 50, 51, 52, 53, 54, 55, 56, 57, 58, 0] [
         ⟨(some 36), (.callF 20 [(.tmp 35)]), (some (32, true))⟩, 
         ⟨(some 37), (.callF 19 [(.tmp 34), (.tmp 36)]), (some (32, true))⟩, 
         ⟨(some 38), (.pick (.tmp 32) (.tmp 37) (.const (.bool false))), none⟩, 
         ⟨(some 39), (.mv (.tmp 38)), none⟩, 
         ⟨(some 40), (.mv (.tmp 7)), (some (39, true))⟩, 
         ⟨(some 41), (.bin .eql (.tmp 40) (.const (.int .i64 21))), (some (39, true))⟩, 
         ⟨(some 42), (.pick (.tmp 39) (.tmp 41) (.const (.bool false))), none⟩, 
         ⟨(some 43), (.mv (.tmp 42)), none⟩, 
         ⟨(some 44), (.mv (.tmp 2)), (some (43, true))⟩, 
         ⟨(some 45), (.lenSl (.tmp 44)), (some (43, true))⟩, 
         ⟨(some 46), (.bin .eql (.tmp 45) (.const (.int .i64 4096))), (some (43, true))⟩, 
         ⟨(some 47), (.pick (.tmp 43) (.tmp 46) (.const (.bool false))), none⟩, 
         ⟨(some 48), (.mv (.tmp 47)), none⟩, 
         ⟨(some 49), (.buildSlice 9 2 [(.string ⟨#[]⟩), (.string ⟨#[]⟩)] [(0, 1, (.const (.string ⟨#[98]⟩))), (1, 1, (.const (.string ⟨#[100]⟩)))]), (some (48, true))⟩, 
         ⟨(some 50), (.build [(.slice none 0 0), (.slice none 0 0), (.slice none 0 0)] [(0, 1, (.tmp 49))]), (some (48, true))⟩, 
         ⟨(some 51), (.callF 16 [(.tmp 50), (.const (.string ⟨#[98]⟩))]), (some (48, true))⟩, 
         ⟨(some 52), (.bin .eql (.tmp 51) (.const (.int .i64 1))), (some (48, true))⟩, 
         ⟨(some 53), (.pick (.tmp 48) (.tmp 52) (.const (.bool false))), none⟩, 
         ⟨(some 54), (.mv (.tmp 53)), none⟩, 
         ⟨(some 55), (.loadN 3 (.tmp 1)), (some (54, true))⟩, 
         ⟨(some 56), (.loadN 3 (.tmp 4)), (some (54, true))⟩, 
         ⟨(some 57), (.callF 18 [(.tmp 55), (.tmp 56)]), (some (54, true))⟩, 
         ⟨(some 58), (.pick (.tmp 54) (.tmp 57) (.const (.bool false))), none⟩, 
         ⟨(some 0), (.mv (.tmp 58)), none⟩])))
      .ret))))))
theorem c12 {args : Array Value} {h : Heap} {R : Ending → Heap → Prop} (ha : args.size ≤ 59) (hh : aexec Try.prog ac12 (abody [(.slot 0)] R) ⟨initFr args.toList, []⟩ h) : HCalls Try.prog 12 args h R :=
  hcalls_of Try.func12 rfl rfl (by kernel_rfl) (by kernel_rfl) ha hh
/-- 13: credenza/credenzaref02.Same -/
def ac13 : ACode :=
 (.seq (.ops [
  ⟨(some 4), (.mv (.const (.bool false))), none⟩])
 (.seq (.ops [
   ⟨(some 5), (.mv (.tmp 0)), none⟩, 
   ⟨(some 6), (.strOfBytes (.tmp 5)), none⟩, 
   ⟨(some 7), (.mv (.tmp 1)), none⟩, 
   ⟨(some 8), (.strOfBytes (.tmp 7)), none⟩, 
   ⟨(some 9), (.bin .eql (.tmp 6) (.tmp 8)), none⟩, 
   ⟨(some 4), (.mv (.tmp 9)), none⟩])
  .ret))
theorem c13 {args : Array Value} {h : Heap} {R : Ending → Heap → Prop} (ha : args.size ≤ 10) (hh : aexec Try.prog ac13 (abody [(.slot 4)] R) ⟨initFr args.toList, []⟩ h) : HCalls Try.prog 13 args h R :=
  hcalls_of Try.func13 rfl rfl (by kernel_rfl) (by kernel_rfl) ha hh
/-- 14: credenza/node.Check -/
def ac14 : ACode :=
 (.seq (.ops [
  ⟨(some 1), (.box 26 (.tmp 0)), none⟩, 
  ⟨(some 2), (.mv (.const (.int .i64 0))), none⟩])
 (.seq (.any [13, 14, 15, 16, 17, 18, 19, 3, 4] [
   ⟨(some 13), (.fieldAddr 0 (.tmp 1)), none⟩, 
   ⟨(some 14), (.load1 (.tmp 13)), none⟩, 
   ⟨(some 15), (.lenSl (.tmp 14)), none⟩, 
   ⟨(some 16), (.fieldAddr 0 (.tmp 1)), none⟩, 
   ⟨(some 17), (.load1 (.tmp 16)), none⟩, 
   ⟨(some 18), (.lenSl (.tmp 17)), none⟩, 
   ⟨(some 19), (.bin .leq (.tmp 18) (.const (.int .i64 3))), none⟩, 
   ⟨(some 3), (.mv (.tmp 15)), none⟩, 
   ⟨(some 4), (.mv (.tmp 19)), none⟩])
  (.seq (.seq (.ops [
     ⟨(some 20), (.fieldAddr 2 (.tmp 1)), none⟩, 
     ⟨(some 21), (.load1 (.tmp 20)), none⟩, 
     ⟨(some 22), (.lenSl (.tmp 21)), none⟩, 
     ⟨(some 5), (.mv (.tmp 22)), none⟩])
    (.seq (.ops [
      ⟨(some 23), (.mv (.tmp 5)), none⟩, 
      ⟨(some 24), (.bin .gtr (.tmp 23) (.const (.int .i64 0))), none⟩])
     (.cond (.tmp 24)
      (.any [25, 26, 27, 28, 29, 30, 31, 32, 33, 34, 35, 36, 37, 38, 3, 4] [
       ⟨(some 25), (.mv (.tmp 5)), none⟩, 
       ⟨(some 26), (.bin .geq (.tmp 25) (.const (.int .i64 2))), none⟩, 
       ⟨(some 27), (.mv (.tmp 26)), none⟩, 
       ⟨(some 28), (.mv (.tmp 5)), (some (27, true))⟩, 
       ⟨(some 29), (.bin .leq (.tmp 28) (.const (.int .i64 12))), (some (27, true))⟩, 
       ⟨(some 30), (.pick (.tmp 27) (.tmp 29) (.const (.bool false))), none⟩, 
       ⟨(some 31), (.mv (.tmp 30)), none⟩, 
       ⟨(some 32), (.fieldAddr 0 (.tmp 1)), (some (31, true))⟩, 
       ⟨(some 33), (.load1 (.tmp 32)), (some (31, true))⟩, 
       ⟨(some 34), (.lenSl (.tmp 33)), (some (31, true))⟩, 
       ⟨(some 35), (.mv (.tmp 5)), (some (31, true))⟩, 
       ⟨(some 36), (.bin .sub (.tmp 35) (.const (.int .i64 1))), (some (31, true))⟩, 
       ⟨(some 37), (.bin .eql (.tmp 34) (.tmp 36)), (some (31, true))⟩, 
       ⟨(some 38), (.pick (.tmp 31) (.tmp 37) (.const (.bool false))), none⟩, 
       ⟨(some 3), (.mv (.const (.int .i64 0))), none⟩, 
       ⟨(some 4), (.mv (.tmp 38)), none⟩])
      .skip)))
   (.seq (.ops [
     ⟨(some 39), (.mv (.tmp 4)), none⟩, 
     ⟨(some 40), (.mv (.tmp 39)), none⟩, 
     ⟨(some 41), (.fieldAddr 1 (.tmp 1)), (some (40, true))⟩, 
     ⟨(some 42), (.load1 (.tmp 41)), (some (40, true))⟩, 
     ⟨(some 43), (.lenSl (.tmp 42)), (some (40, true))⟩, 
     ⟨(some 44), (.mv (.tmp 3)), (some (40, true))⟩, 
     ⟨(some 45), (.bin .eql (.tmp 43) (.tmp 44)), (some (40, true))⟩, 
     ⟨(some 46), (.pick (.tmp 40) (.tmp 45) (.const (.bool false))), none⟩, 
     ⟨(some 6), (.mv (.tmp 46)), none⟩])
    (.seq (.seq (.ops [
       ⟨(some 47), (.fieldAddr 0 (.tmp 1)), none⟩, 
       ⟨(some 48), (.load1 (.tmp 47)), none⟩, 
       ⟨(some 49), (.lenSl (.tmp 48)), none⟩, 
       ⟨(some 50), (.mv (.const (.int .i64 0))), none⟩])
      (.block 0
       (.loop
        (.seq (.ops [
          ⟨(some 51), (.bin .lss (.tmp 50) (.tmp 49)), none⟩])
         (.seq (.cond (.tmp 51)
           .skip
           (.exit 0))
          (.seq (.block 1
            (.seq (.ops [
              ⟨(some 52), (.mv (.tmp 50)), none⟩, 
              ⟨(some 53), (.idxSl 1 (.tmp 48) (.tmp 50)), none⟩, 
              ⟨(some 54), (.load1 (.tmp 53)), none⟩, 
              ⟨(some 7), (.mv (.tmp 52)), none⟩, 
              ⟨(some 8), (.mv (.tmp 54)), none⟩])
             (.ops [
              ⟨(some 55), (.mv (.tmp 6)), none⟩, 
              ⟨(some 56), (.mv (.tmp 55)), none⟩, 
              ⟨(some 57), (.mv (.tmp 8)), (some (56, true))⟩, 
              ⟨(some 58), (.lenStr (.tmp 57)), (some (56, true))⟩, 
              ⟨(some 59), (.bin .leq (.tmp 58) (.const (.int .i64 256))), (some (56, true))⟩, 
              ⟨(some 60), (.pick (.tmp 56) (.tmp 59) (.const (.bool false))), none⟩, 
              ⟨(some 61), (.mv (.tmp 60)), none⟩, 
              ⟨(some 62), (.mv (.tmp 7)), (some (61, true))⟩, 
              ⟨(some 63), (.bin .eql (.tmp 62) (.const (.int .i64 0))), (some (61, true))⟩, 
              ⟨(some 64), (.mv (.tmp 63)), (some (61, true))⟩, 
              ⟨(some 65), (.fieldAddr 0 (.tmp 1)), (some (64, false))⟩, 
              ⟨(some 66), (.load1 (.tmp 65)), (some (64, false))⟩, 
              ⟨(some 67), (.mv (.tmp 7)), (some (64, false))⟩, 
              ⟨(some 68), (.bin .sub (.tmp 67) (.const (.int .i64 1))), (some (64, false))⟩, 
              ⟨(some 69), (.idxSl 1 (.tmp 66) (.tmp 68)), (some (64, false))⟩, 
              ⟨(some 70), (.load1 (.tmp 69)), (some (64, false))⟩, 
              ⟨(some 71), (.mv (.tmp 8)), (some (64, false))⟩, 
              ⟨(some 72), (.bin .lss (.tmp 70) (.tmp 71)), (some (64, false))⟩, 
              ⟨(some 73), (.pick (.tmp 64) (.const (.bool true)) (.tmp 72)), (some (61, true))⟩, 
              ⟨(some 74), (.pick (.tmp 61) (.tmp 73) (.const (.bool false))), none⟩, 
              ⟨(some 6), (.mv (.tmp 74)), none⟩])))
           (.ops [
            ⟨(some 75), (.bin .add (.tmp 50) (.const (.int .i64 1))), none⟩, 
            ⟨(some 50), (.mv (.tmp 75)), none⟩])))))))
     (.seq (.seq (.ops [
        ⟨(some 76), (.fieldAddr 1 (.tmp 1)), none⟩, 
        ⟨(some 77), (.load1 (.tmp 76)), none⟩, 
        ⟨(some 78), (.lenSl (.tmp 77)), none⟩, 
        ⟨(some 79), (.mv (.const (.int .i64 0))), none⟩])
       (.block 2
        (.loop
         (.seq (.ops [
           ⟨(some 80), (.bin .lss (.tmp 79) (.tmp 78)), none⟩])
          (.seq (.cond (.tmp 80)
            .skip
            (.exit 2))
           (.seq (.block 3
             (.seq (.ops [
               ⟨(some 81), (.idxSl 1 (.tmp 77) (.tmp 79)), none⟩, 
               ⟨(some 82), (.load1 (.tmp 81)), none⟩, 
               ⟨(some 10), (.mv (.tmp 82)), none⟩])
              (.ops [
               ⟨(some 83), (.mv (.tmp 6)), none⟩, 
               ⟨(some 84), (.mv (.tmp 83)), none⟩, 
               ⟨(some 85), (.mv (.tmp 10)), (some (84, true))⟩, 
               ⟨(some 86), (.lenStr (.tmp 85)), (some (84, true))⟩, 
               ⟨(some 87), (.bin .leq (.tmp 86) (.const (.int .i64 1024))), (some (84, true))⟩, 
               ⟨(some 88), (.pick (.tmp 84) (.tmp 87) (.const (.bool false))), none⟩, 
               ⟨(some 6), (.mv (.tmp 88)), none⟩])))
            (.ops [
             ⟨(some 89), (.bin .add (.tmp 79) (.const (.int .i64 1))), none⟩, 
             ⟨(some 79), (.mv (.tmp 89)), none⟩])))))))
      (.seq (.seq (.ops [
         ⟨(some 90), (.fieldAddr 2 (.tmp 1)), none⟩, 
         ⟨(some 91), (.load1 (.tmp 90)), none⟩, 
         ⟨(some 92), (.lenSl (.tmp 91)), none⟩, 
         ⟨(some 93), (.mv (.const (.int .i64 0))), none⟩])
        (.block 4
         (.loop
          (.seq (.ops [
            ⟨(some 94), (.bin .lss (.tmp 93) (.tmp 92)), none⟩])
           (.seq (.cond (.tmp 94)
             .skip
             (.exit 4))
            (.seq (.block 5
              (.seq (.ops [
                ⟨(some 95), (.idxSl 1 (.tmp 91) (.tmp 93)), none⟩, 
                ⟨(some 96), (.load1 (.tmp 95)), none⟩, 
                ⟨(some 12), (.mv (.tmp 96)), none⟩])
               (.ops [
                ⟨(some 97), (.mv (.tmp 6)), none⟩, 
                ⟨(some 98), (.mv (.tmp 97)), none⟩, 
                ⟨(some 99), (.mv (.tmp 12)), (some (98, true))⟩, 
                ⟨(some 100), (.bin .geq (.tmp 99) (.const (.int .i64 1))), (some (98, true))⟩, 
                ⟨(some 101), (.pick (.tmp 98) (.tmp 100) (.const (.bool false))), none⟩, 
                ⟨(some 102), (.mv (.tmp 101)), none⟩, 
                ⟨(some 103), (.mv (.tmp 12)), (some (102, true))⟩, 
                ⟨(some 104), (.bin .leq (.tmp 103) (.const (.int .i64 2147483647))), (some (102, true))⟩, 
                ⟨(some 105), (.pick (.tmp 102) (.tmp 104) (.const (.bool false))), none⟩, 
                ⟨(some 6), (.mv (.tmp 105)), none⟩])))
             (.ops [
              ⟨(some 106), (.bin .add (.tmp 93) (.const (.int .i64 1))), none⟩, 
              ⟨(some 93), (.mv (.tmp 106)), none⟩])))))))
       (.seq (.seq (.ops [
          ⟨(some 107), (.mv (.tmp 6)), none⟩, 
          ⟨(some 108), (.un .not (.tmp 107)), none⟩])
         (.cond (.tmp 108)
          (.seq (.ops [
            ⟨(some 2), (.mv (.const (.int .i64 190))), none⟩])
           .ret)
          .skip))
        (.seq (.ops [
          ⟨(some 2), (.mv (.const (.int .i64 0))), none⟩])
         .ret)))))))))
theorem c14 {args : Array Value} {h : Heap} {R : Ending → Heap → Prop} (ha : args.size ≤ 109) (hh : aexec Try.prog ac14 (abody [(.slot 2)] R) ⟨initFr args.toList, []⟩ h) : HCalls Try.prog 14 args h R :=
  hcalls_of Try.func14 rfl rfl (by kernel_rfl) (by kernel_rfl) ha hh
/-- 15: credenza/credenzaref17.Check -/
def ac15 : ACode :=
 (.seq (.ops [
  ⟨(some 1), (.box 25 (.tmp 0)), none⟩, 
  ⟨(some 2), (.mv (.const (.int .i64 0))), none⟩])
 (.seq (.seq (.ops [
    ⟨(some 3), (.loadN 3 (.tmp 1)), none⟩, 
    ⟨(some 4), (.callF 27 [(.tmp 3)]), none⟩, 
    ⟨(some 5), (.un .not (.tmp 4)), none⟩])
   (.cond (.tmp 5)
    (.seq (.ops [
      ⟨(some 2), (.mv (.const (.int .i64 190))), none⟩])
     .ret)
    .skip))
  (.seq (.ops [
    ⟨(some 2), (.mv (.const (.int .i64 0))), none⟩])
   .ret)))
theorem c15 {args : Array Value} {h : Heap} {R : Ending → Heap → Prop} (ha : args.size ≤ 6) (hh : aexec Try.prog ac15 (abody [(.slot 2)] R) ⟨initFr args.toList, []⟩ h) : HCalls Try.prog 15 args h R :=
  hcalls_of Try.func15 rfl rfl (by kernel_rfl) (by kernel_rfl) ha hh
/-- 16: credenza/node.Child -/
def ac16 : ACode :=
 (.seq (.ops [
  ⟨(some 2), (.box 26 (.tmp 0)), none⟩, 
  ⟨(some 3), (.box 9 (.tmp 1)), none⟩, 
  ⟨(some 4), (.mv (.const (.int .i64 0))), none⟩])
 (.seq (.seq (.ops [
    ⟨(some 8), (.fieldAddr 0 (.tmp 2)), none⟩, 
    ⟨(some 9), (.load1 (.tmp 8)), none⟩, 
    ⟨(some 10), (.callF 29 [(.tmp 9)]), none⟩])
   (.cond (.tmp 10)
    (.seq (.ops [
      ⟨(some 11), (.fieldAddr 0 (.tmp 2)), none⟩, 
      ⟨(some 12), (.load1 (.tmp 11)), none⟩, 
      ⟨(some 13), (.lenSl (.tmp 12)), none⟩, 
      ⟨(some 14), (.mkFunc (.func 31) [] [(.tmp 2), (.tmp 3)]), none⟩, 
      ⟨(some 15), (.callF 30 [(.tmp 13), (.tmp 14)]), none⟩, 
      ⟨(some 4), (.mv (.tmp 15)), none⟩])
     .ret)
    .skip))
  (.seq (.ops [
    ⟨(some 5), (.mv (.const (.int .i64 0))), none⟩])
   (.seq (.seq (.ops [
      ⟨(some 16), (.fieldAddr 0 (.tmp 2)), none⟩, 
      ⟨(some 17), (.load1 (.tmp 16)), none⟩, 
      ⟨(some 18), (.lenSl (.tmp 17)), none⟩, 
      ⟨(some 19), (.mv (.const (.int .i64 0))), none⟩])
     (.block 0
      (.loop
       (.seq (.ops [
         ⟨(some 20), (.bin .lss (.tmp 19) (.tmp 18)), none⟩])
        (.seq (.cond (.tmp 20)
          .skip
          (.exit 0))
         (.seq (.block 1
           (.seq (.ops [
             ⟨(some 21), (.idxSl 1 (.tmp 17) (.tmp 19)), none⟩, 
             ⟨(some 22), (.load1 (.tmp 21)), none⟩, 
             ⟨(some 7), (.mv (.tmp 22)), none⟩])
            (.seq (.ops [
              ⟨(some 23), (.mv (.tmp 7)), none⟩, 
              ⟨(some 24), (.load1 (.tmp 3)), none⟩, 
              ⟨(some 25), (.bin .leq (.tmp 23) (.tmp 24)), none⟩])
             (.cond (.tmp 25)
              (.ops [
               ⟨(some 26), (.mv (.tmp 5)), none⟩, 
               ⟨(some 27), (.bin .add (.tmp 26) (.const (.int .i64 1))), none⟩, 
               ⟨(some 5), (.mv (.tmp 27)), none⟩])
              .skip))))
          (.ops [
           ⟨(some 28), (.bin .add (.tmp 19) (.const (.int .i64 1))), none⟩, 
           ⟨(some 19), (.mv (.tmp 28)), none⟩])))))))
    (.seq (.ops [
      ⟨(some 29), (.mv (.tmp 5)), none⟩, 
      ⟨(some 4), (.mv (.tmp 29)), none⟩])
     .ret)))))
theorem c16 {args : Array Value} {h : Heap} {R : Ending → Heap → Prop} (ha : args.size ≤ 30) (hh : aexec Try.prog ac16 (abody [(.slot 4)] R) ⟨initFr args.toList, []⟩ h) : HCalls Try.prog 16 args h R :=
  hcalls_of Try.func16 rfl rfl (by kernel_rfl) (by kernel_rfl) ha hh
/-- 17: credenza/credenzaref17.Child -/
def ac17 : ACode :=
 (.seq (.ops [
  ⟨(some 2), (.box 25 (.tmp 0)), none⟩, 
  ⟨(some 4), (.mv (.const (.int .i64 0))), none⟩])
 (.seq (.ops [
   ⟨(some 5), (.mv (.const (.int .i64 0))), none⟩])
  (.seq (.seq (.ops [
     ⟨(some 8), (.fieldAddr 0 (.tmp 2)), none⟩, 
     ⟨(some 9), (.load1 (.tmp 8)), none⟩, 
     ⟨(some 10), (.lenSl (.tmp 9)), none⟩, 
     ⟨(some 11), (.mv (.const (.int .i64 0))), none⟩])
    (.block 0
     (.loop
      (.seq (.ops [
        ⟨(some 12), (.bin .lss (.tmp 11) (.tmp 10)), none⟩])
       (.seq (.cond (.tmp 12)
         .skip
         (.exit 0))
        (.seq (.block 1
          (.seq (.ops [
            ⟨(some 13), (.idxSl 1 (.tmp 9) (.tmp 11)), none⟩, 
            ⟨(some 14), (.load1 (.tmp 13)), none⟩, 
            ⟨(some 7), (.mv (.tmp 14)), none⟩])
           (.seq (.ops [
             ⟨(some 15), (.mv (.tmp 7)), none⟩, 
             ⟨(some 16), (.mv (.tmp 1)), none⟩, 
             ⟨(some 17), (.bin .leq (.tmp 15) (.tmp 16)), none⟩])
            (.cond (.tmp 17)
             (.ops [
              ⟨(some 18), (.mv (.tmp 5)), none⟩, 
              ⟨(some 19), (.bin .add (.tmp 18) (.const (.int .i64 1))), none⟩, 
              ⟨(some 5), (.mv (.tmp 19)), none⟩])
             .skip))))
         (.ops [
          ⟨(some 20), (.bin .add (.tmp 11) (.const (.int .i64 1))), none⟩, 
          ⟨(some 11), (.mv (.tmp 20)), none⟩])))))))
   (.seq (.ops [
     ⟨(some 21), (.mv (.tmp 5)), none⟩, 
     ⟨(some 4), (.mv (.tmp 21)), none⟩])
    .ret))))
theorem c17 {args : Array Value} {h : Heap} {R : Ending → Heap → Prop} (ha : args.size ≤ 22) (hh : aexec Try.prog ac17 (abody [(.slot 4)] R) ⟨initFr args.toList, []⟩ h) : HCalls Try.prog 17 args h R :=
  hcalls_of Try.func17 rfl rfl (by kernel_rfl) (by kernel_rfl) ha hh
/-- 18: credenza/node.Same -/
def ac18 : ACode :=
 (.seq (.ops [
  ⟨(some 2), (.box 26 (.tmp 0)), none⟩, 
  ⟨(some 3), (.box 26 (.tmp 1)), none⟩, 
  ⟨(some 4), (.mv (.const (.bool false))), none⟩])
 (.seq (.ops [
   ⟨(some 5), (.fieldAddr 0 (.tmp 2)), none⟩, 
   ⟨(some 6), (.load1 (.tmp 5)), none⟩, 
   ⟨(some 7), (.fieldAddr 0 (.tmp 3)), none⟩, 
   ⟨(some 8), (.load1 (.tmp 7)), none⟩, 
   ⟨(some 9), (.callF 32 [(.tmp 6), (.tmp 8)]), none⟩, 
   ⟨(some 10), (.mv (.tmp 9)), none⟩, 
   ⟨(some 11), (.fieldAddr 1 (.tmp 2)), (some (10, true))⟩, 
   ⟨(some 12), (.load1 (.tmp 11)), (some (10, true))⟩, 
   ⟨(some 13), (.fieldAddr 1 (.tmp 3)), (some (10, true))⟩, 
   ⟨(some 14), (.load1 (.tmp 13)), (some (10, true))⟩, 
   ⟨(some 15), (.callF 32 [(.tmp 12), (.tmp 14)]), (some (10, true))⟩, 
   ⟨(some 16), (.pick (.tmp 10) (.tmp 15) (.const (.bool false))), none⟩, 
   ⟨(some 17), (.mv (.tmp 16)), none⟩, 
   ⟨(some 18), (.fieldAddr 2 (.tmp 2)), (some (17, true))⟩, 
   ⟨(some 19), (.load1 (.tmp 18)), (some (17, true))⟩, 
   ⟨(some 20), (.fieldAddr 2 (.tmp 3)), (some (17, true))⟩, 
   ⟨(some 21), (.load1 (.tmp 20)), (some (17, true))⟩, 
   ⟨(some 22), (.callF 33 [(.tmp 19), (.tmp 21)]), (some (17, true))⟩, 
   ⟨(some 23), (.pick (.tmp 17) (.tmp 22) (.const (.bool false))), none⟩, 
   ⟨(some 4), (.mv (.tmp 23)), none⟩])
  .ret))
theorem c18 {args : Array Value} {h : Heap} {R : Ending → Heap → Prop} (ha : args.size ≤ 24) (hh : aexec Try.prog ac18 (abody [(.slot 4)] R) ⟨initFr args.toList, []⟩ h) : HCalls Try.prog 18 args h R :=
  hcalls_of Try.func18 rfl rfl (by kernel_rfl) (by kernel_rfl) ha hh
/-- 19: credenza/credenzaref17.Same -/
def ac19 : ACode :=
 (.seq (.ops [
  ⟨(some 2), (.box 25 (.tmp 0)), none⟩, 
  ⟨(some 3), (.box 25 (.tmp 1)), none⟩, 
  ⟨(some 4), (.mv (.const (.bool false))), none⟩])
 (.seq (.ops [
   ⟨(some 5), (.fieldAddr 0 (.tmp 2)), none⟩, 
   ⟨(some 6), (.load1 (.tmp 5)), none⟩, 
   ⟨(some 7), (.fieldAddr 0 (.tmp 3)), none⟩, 
   ⟨(some 8), (.load1 (.tmp 7)), none⟩, 
   ⟨(some 9), (.callF 34 [(.tmp 6), (.tmp 8)]), none⟩, 
   ⟨(some 10), (.mv (.tmp 9)), none⟩, 
   ⟨(some 11), (.fieldAddr 1 (.tmp 2)), (some (10, true))⟩, 
   ⟨(some 12), (.load1 (.tmp 11)), (some (10, true))⟩, 
   ⟨(some 13), (.fieldAddr 1 (.tmp 3)), (some (10, true))⟩, 
   ⟨(some 14), (.load1 (.tmp 13)), (some (10, true))⟩, 
   ⟨(some 15), (.callF 34 [(.tmp 12), (.tmp 14)]), (some (10, true))⟩, 
   ⟨(some 16), (.pick (.tmp 10) (.tmp 15) (.const (.bool false))), none⟩, 
   ⟨(some 17), (.mv (.tmp 16)), none⟩, 
   ⟨(some 18), (.fieldAddr 2 (.tmp 2)), (some (17, true))⟩, 
   ⟨(some 19), (.load1 (.tmp 18)), (some (17, true))⟩, 
   ⟨(some 20), (.fieldAddr 2 (.tmp 3)), (some (17, true))⟩, 
   ⟨(some 21), (.load1 (.tmp 20)), (some (17, true))⟩, 
   ⟨(some 22), (.callF 35 [(.tmp 19), (.tmp 21)]), (some (17, true))⟩, 
   ⟨(some 23), (.pick (.tmp 17) (.tmp 22) (.const (.bool false))), none⟩, 
   ⟨(some 4), (.mv (.tmp 23)), none⟩])
  .ret))
theorem c19 {args : Array Value} {h : Heap} {R : Ending → Heap → Prop} (ha : args.size ≤ 24) (hh : aexec Try.prog ac19 (abody [(.slot 4)] R) ⟨initFr args.toList, []⟩ h) : HCalls Try.prog 19 args h R :=
  hcalls_of Try.func19 rfl rfl (by kernel_rfl) (by kernel_rfl) ha hh
/-- 20: credenza/credenzalaw17.told -/
def ac20 : ACode :=
 (.seq (.ops [
  ⟨(some 1), (.box 26 (.tmp 0)), none⟩, 
  ⟨(some 2), (.new 25 [(.slice none 0 0), (.slice none 0 0), (.slice none 0 0)]), none⟩])
 (.seq (.ops [
   ⟨(some 3), (.fieldAddr 0 (.tmp 1)), none⟩, 
   ⟨(some 4), (.load1 (.tmp 3)), none⟩, 
   ⟨(some 5), (.fieldAddr 1 (.tmp 1)), none⟩, 
   ⟨(some 6), (.load1 (.tmp 5)), none⟩, 
   ⟨(some 7), (.fieldAddr 2 (.tmp 1)), none⟩, 
   ⟨(some 8), (.load1 (.tmp 7)), none⟩, 
   ⟨(some 9), (.build [(.slice none 0 0), (.slice none 0 0), (.slice none 0 0)] [(0, 1, (.tmp 4)), (1, 1, (.tmp 6)), (2, 1, (.tmp 8))]), none⟩, 
   ⟨none, (.storeN 3 (.tmp 2) (.tmp 9)), none⟩])
  .ret))
theorem c20 {args : Array Value} {h : Heap} {R : Ending → Heap → Prop} (ha : args.size ≤ 10) (hh : aexec Try.prog ac20 (abody [(.cellN 2 3)] R) ⟨initFr args.toList, []⟩ h) : HCalls Try.prog 20 args h R :=
  hcalls_of Try.func20 rfl rfl (by kernel_rfl) (by kernel_rfl) ha hh
/-- 21: credenza/node.Decode -/
def ac21 : ACode :=
 (.seq (.ops [
  ⟨(some 2), (.new 26 [(.slice none 0 0), (.slice none 0 0), (.slice none 0 0)]), none⟩, 
  ⟨(some 3), (.new 29 [(.int .i64 0)]), none⟩])
 (.seq (.seq (.ops [
    ⟨(some 6), (.mv (.tmp 0)), none⟩, 
    ⟨(some 7), (.lenSl (.tmp 6)), none⟩, 
    ⟨(some 8), (.bin .neq (.tmp 7) (.const (.int .i64 4096))), none⟩])
   (.cond (.tmp 8)
    (.seq (.ops [
      ⟨(some 9), (.loadN 3 (.tmp 2)), none⟩, 
      ⟨none, (.storeN 3 (.tmp 2) (.tmp 9)), none⟩, 
      ⟨none, (.store1 (.tmp 3) (.const (.int .i64 2))), none⟩])
     .ret)
    .skip))
  (.seq (.ops [
    ⟨(some 11), (.mv (.tmp 0)), none⟩, 
    ⟨(some 12), (.callF 36 [(.tmp 11), (.const (.int .i64 4096))]), none⟩, 
    ⟨(some 10), (.mv (.tmp 12)), none⟩, 
    ⟨(some 13), (.extract (.tmp 10) 0), none⟩, 
    ⟨(some 14), (.extract (.tmp 10) 1), none⟩, 
    ⟨(some 15), (.extract (.tmp 10) 2), none⟩, 
    ⟨(some 4), (.mv (.tmp 13)), none⟩, 
    ⟨(some 5), (.mv (.tmp 14)), none⟩, 
    ⟨none, (.store1 (.tmp 3) (.tmp 15)), none⟩])
   (.seq (.seq (.ops [
      ⟨(some 16), (.load1 (.tmp 3)), none⟩, 
      ⟨(some 17), (.bin .neq (.tmp 16) (.const (.int .i64 0))), none⟩])
     (.cond (.tmp 17)
      (.seq (.seq (.any [18, 19] [
         ⟨(some 18), (.loadN 3 (.tmp 2)), none⟩])
        (.alt
         (.any [18, 19] [
          ⟨(some 19), (.load1 (.tmp 3)), none⟩, 
          ⟨none, (.storeN 3 (.tmp 2) (.tmp 18)), none⟩, 
          ⟨none, (.store1 (.tmp 3) (.tmp 19)), none⟩])
         (.any [18, 19] [
          ⟨none, (.storeN 3 (.tmp 2) (.tmp 18)), none⟩, 
          ⟨(some 19), (.load1 (.tmp 3)), none⟩, 
          ⟨none, (.store1 (.tmp 3) (.tmp 19)), none⟩])))
       .ret)
      .skip))
    (.seq (.seq (.ops [
       ⟨(some 20), (.mv (.tmp 0)), none⟩, 
       ⟨(some 21), (.mv (.tmp 5)), none⟩, 
       ⟨(some 22), (.sliceSl 1 (.tmp 20) (some (.tmp 21)) none none), none⟩, 
       ⟨(some 23), (.callF 37 [(.tmp 22), (.func 38)]), none⟩])
      (.cond (.tmp 23)
       (.seq (.ops [
         ⟨(some 24), (.loadN 3 (.tmp 2)), none⟩, 
         ⟨none, (.storeN 3 (.tmp 2) (.tmp 24)), none⟩, 
         ⟨none, (.store1 (.tmp 3) (.const (.int .i64 22))), none⟩])
        .ret)
       .skip))
     (.seq (.ops [
       ⟨(some 25), (.mkFunc (.func 39) [] [(.tmp 2), (.tmp 3)]), none⟩, 
       ⟨none, (.deferV (.tmp 25)), none⟩])
      (.seq (.ops [
        ⟨(some 26), (.mv (.tmp 4)), none⟩, 
        ⟨(some 27), (.build [(.slice none 0 0)] [(0, 1, (.tmp 26))]), none⟩, 
        ⟨(some 28), (.box 68 (.tmp 27)), none⟩, 
        ⟨(some 29), (.callF 40 [(.tmp 28)]), none⟩, 
        ⟨none, (.storeN 3 (.tmp 2) (.tmp 29)), none⟩, 
        ⟨none, (.store1 (.tmp 3) (.const (.int .i64 0))), none⟩])
       .ret)))))))
theorem c21 {args : Array Value} {h : Heap} {R : Ending → Heap → Prop} (ha : args.size ≤ 30) (hh : aexec Try.prog ac21 (abodyD Try.prog [(.cellN 2 3), (.cell1 3)] R) ⟨initFr args.toList, []⟩ h) : HCalls Try.prog 21 args h R :=
  hcalls_of_d Try.func21 rfl rfl (by kernel_rfl) (by kernel_rfl) ha hh
/-- 22: credenza/credenzaref17.Decode -/
def ac22 : ACode :=
 (.seq (.ops [
  ⟨(some 2), (.new 25 [(.slice none 0 0), (.slice none 0 0), (.slice none 0 0)]), none⟩, 
  ⟨(some 3), (.mv (.const (.int .i64 0))), none⟩])
 (.seq (.seq (.ops [
    ⟨(some 11), (.mv (.tmp 0)), none⟩, 
    ⟨(some 12), (.lenSl (.tmp 11)), none⟩, 
    ⟨(some 13), (.bin .neq (.tmp 12) (.const (.int .i64 4096))), none⟩])
   (.cond (.tmp 13)
    (.seq (.ops [
      ⟨(some 14), (.build [(.slice none 0 0), (.slice none 0 0), (.slice none 0 0)] []), none⟩, 
      ⟨none, (.storeN 3 (.tmp 2) (.tmp 14)), none⟩, 
      ⟨(some 3), (.mv (.const (.int .i64 2))), none⟩])
     .ret)
    .skip))
  (.seq (.ops [
    ⟨(some 16), (.mv (.tmp 0)), none⟩, 
    ⟨(some 17), (.callF 41 [(.tmp 16), (.const (.int .i64 4096))]), none⟩, 
    ⟨(some 15), (.mv (.tmp 17)), none⟩, 
    ⟨(some 18), (.extract (.tmp 15) 0), none⟩, 
    ⟨(some 19), (.extract (.tmp 15) 1), none⟩, 
    ⟨(some 20), (.extract (.tmp 15) 2), none⟩, 
    ⟨(some 4), (.mv (.tmp 18)), none⟩, 
    ⟨(some 5), (.mv (.tmp 19)), none⟩, 
    ⟨(some 6), (.mv (.tmp 20)), none⟩])
   (.seq (.seq (.ops [
      ⟨(some 21), (.mv (.tmp 6)), none⟩, 
      ⟨(some 22), (.bin .neq (.tmp 21) (.const (.int .i64 0))), none⟩])
     (.cond (.tmp 22)
      (.seq (.ops [
        ⟨(some 23), (.build [(.slice none 0 0), (.slice none 0 0), (.slice none 0 0)] []), none⟩, 
        ⟨(some 24), (.mv (.tmp 6)), none⟩, 
        ⟨none, (.storeN 3 (.tmp 2) (.tmp 23)), none⟩, 
        ⟨(some 3), (.mv (.tmp 24)), none⟩])
       .ret)
      .skip))
    (.seq (.seq (.ops [
       ⟨(some 25), (.mv (.tmp 0)), none⟩, 
       ⟨(some 26), (.mv (.tmp 5)), none⟩, 
       ⟨(some 27), (.sliceSl 1 (.tmp 25) (some (.tmp 26)) none none), none⟩, 
       ⟨(some 28), (.lenSl (.tmp 27)), none⟩, 
       ⟨(some 29), (.mv (.const (.int .i64 0))), none⟩])
      (.block 0
       (.loop
        (.seq (.ops [
          ⟨(some 30), (.bin .lss (.tmp 29) (.tmp 28)), none⟩])
         (.seq (.cond (.tmp 30)
           .skip
           (.exit 0))
          (.seq (.block 1
            (.seq (.ops [
              ⟨(some 31), (.idxSl 1 (.tmp 27) (.tmp 29)), none⟩, 
              ⟨(some 32), (.load1 (.tmp 31)), none⟩, 
              ⟨(some 8), (.mv (.tmp 32)), none⟩])
             (.seq (.ops [
               ⟨(some 33), (.mv (.tmp 8)), none⟩, 
               ⟨(some 34), (.bin .neq (.tmp 33) (.const (.int .u8 0))), none⟩])
              (.cond (.tmp 34)
               (.seq (.ops [
                 ⟨(some 35), (.build [(.slice none 0 0), (.slice none 0 0), (.slice none 0 0)] []), none⟩, 
                 ⟨none, (.storeN 3 (.tmp 2) (.tmp 35)), none⟩, 
                 ⟨(some 3), (.mv (.const (.int .i64 22))), none⟩])
                .ret)
               .skip))))
           (.ops [
            ⟨(some 36), (.bin .add (.tmp 29) (.const (.int .i64 1))), none⟩, 
            ⟨(some 29), (.mv (.tmp 36)), none⟩])))))))
     (.seq (.ops [
       ⟨(some 37), (.mv (.tmp 4)), none⟩, 
       ⟨(some 38), (.build [(.slice none 0 0), (.int .i64 0)] [(0, 1, (.tmp 37))]), none⟩, 
       ⟨(some 39), (.box 72 (.tmp 38)), none⟩, 
       ⟨(some 9), (.mv (.tmp 39)), none⟩])
      (.seq (.ops [
        ⟨(some 40), (.mv (.tmp 9)), none⟩, 
        ⟨(some 41), (.callF 42 [(.tmp 40)]), none⟩, 
        ⟨(some 10), (.new 25 [(.slice none 0 0), (.slice none 0 0), (.slice none 0 0)]), none⟩, 
        ⟨none, (.storeN 3 (.tmp 10) (.tmp 41)), none⟩])
       (.seq (.seq (.ops [
          ⟨(some 42), (.mv (.tmp 9)), none⟩, 
          ⟨(some 43), (.nilCheck (.tmp 42)), none⟩, 
          ⟨(some 44), (.fieldAddr 1 (.tmp 43)), none⟩, 
          ⟨(some 45), (.load1 (.tmp 44)), none⟩, 
          ⟨(some 46), (.bin .eql (.tmp 45) (.const (.int .i64 0))), none⟩, 
          ⟨(some 47), (.mv (.tmp 46)), none⟩, 
          ⟨(some 48), (.mv (.tmp 9)), (some (47, true))⟩, 
          ⟨(some 49), (.nilCheck (.tmp 48)), (some (47, true))⟩, 
          ⟨(some 50), (.fieldAddr 0 (.tmp 49)), (some (47, true))⟩, 
          ⟨(some 51), (.load1 (.tmp 50)), (some (47, true))⟩, 
          ⟨(some 52), (.lenSl (.tmp 51)), (some (47, true))⟩, 
          ⟨(some 53), (.bin .gtr (.tmp 52) (.const (.int .i64 0))), (some (47, true))⟩, 
          ⟨(some 54), (.pick (.tmp 47) (.tmp 53) (.const (.bool false))), none⟩])
         (.cond (.tmp 54)
          (.ops [
           ⟨(some 55), (.mv (.tmp 9)), none⟩, 
           ⟨(some 56), (.callF 43 [(.tmp 55), (.const (.int .i64 22))]), none⟩])
          .skip))
        (.seq (.seq (.ops [
           ⟨(some 57), (.mv (.tmp 9)), none⟩, 
           ⟨(some 58), (.nilCheck (.tmp 57)), none⟩, 
           ⟨(some 59), (.fieldAddr 1 (.tmp 58)), none⟩, 
           ⟨(some 60), (.load1 (.tmp 59)), none⟩, 
           ⟨(some 61), (.bin .eql (.tmp 60) (.const (.int .i64 0))), none⟩, 
           ⟨(some 62), (.mv (.tmp 61)), none⟩, 
           ⟨(some 63), (.loadN 3 (.tmp 10)), (some (62, true))⟩, 
           ⟨(some 64), (.callF 27 [(.tmp 63)]), (some (62, true))⟩, 
           ⟨(some 65), (.un .not (.tmp 64)), (some (62, true))⟩, 
           ⟨(some 66), (.mv (.tmp 65)), (some (62, true))⟩, 
           ⟨(some 67), (.mv (.tmp 4)), (some (66, false))⟩, 
           ⟨(some 68), (.idxSl 1 (.tmp 67) (.const (.int .i64 0))), (some (66, false))⟩, 
           ⟨(some 69), (.load1 (.tmp 68)), (some (66, false))⟩, 
           ⟨(some 70), (.bin .eql (.tmp 69) (.const (.int .u8 1))), (some (66, false))⟩, 
           ⟨(some 71), (.mv (.tmp 70)), (some (66, false))⟩, 
           ⟨(some 72), (.fieldAddr 2 (.tmp 10)), (some (71, true))⟩, 
           ⟨(some 73), (.load1 (.tmp 72)), (some (71, true))⟩, 
           ⟨(some 74), (.lenSl (.tmp 73)), (some (71, true))⟩, 
           ⟨(some 75), (.bin .eql (.tmp 74) (.const (.int .i64 0))), (some (71, true))⟩, 
           ⟨(some 76), (.pick (.tmp 71) (.tmp 75) (.const (.bool false))), (some (66, false))⟩, 
           ⟨(some 77), (.pick (.tmp 66) (.const (.bool true)) (.tmp 76)), (some (62, true))⟩, 
           ⟨(some 78), (.pick (.tmp 62) (.tmp 77) (.const (.bool false))), none⟩])
          (.cond (.tmp 78)
           (.ops [
            ⟨(some 79), (.mv (.tmp 9)), none⟩, 
            ⟨(some 80), (.callF 43 [(.tmp 79), (.const (.int .i64 190))]), none⟩])
           .skip))
         (.seq (.seq (.ops [
            ⟨(some 81), (.mv (.tmp 9)), none⟩, 
            ⟨(some 82), (.nilCheck (.tmp 81)), none⟩, 
            ⟨(some 83), (.fieldAddr 1 (.tmp 82)), none⟩, 
            ⟨(some 84), (.load1 (.tmp 83)), none⟩, 
            ⟨(some 85), (.bin .neq (.tmp 84) (.const (.int .i64 0))), none⟩])
           (.cond (.tmp 85)
            (.seq (.seq (.any [86, 87, 88, 89, 90, 3] [
               ⟨(some 86), (.build [(.slice none 0 0), (.slice none 0 0), (.slice none 0 0)] []), none⟩, 
               ⟨(some 87), (.mv (.tmp 9)), none⟩, 
               ⟨(some 88), (.nilCheck (.tmp 87)), none⟩, 
               ⟨(some 89), (.fieldAddr 1 (.tmp 88)), none⟩])
              (.alt
               (.any [86, 87, 88, 89, 90, 3] [
                ⟨(some 90), (.load1 (.tmp 89)), none⟩, 
                ⟨none, (.storeN 3 (.tmp 2) (.tmp 86)), none⟩, 
                ⟨(some 3), (.mv (.tmp 90)), none⟩])
               (.any [86, 87, 88, 89, 90, 3] [
                ⟨none, (.storeN 3 (.tmp 2) (.tmp 86)), none⟩, 
                ⟨(some 90), (.load1 (.tmp 89)), none⟩, 
                ⟨(some 3), (.mv (.tmp 90)), none⟩])))
             .ret)
            .skip))
          (.seq (.ops [
            ⟨(some 91), (.loadN 3 (.tmp 10)), none⟩, 
            ⟨none, (.storeN 3 (.tmp 2) (.tmp 91)), none⟩, 
            ⟨(some 3), (.mv (.const (.int .i64 0))), none⟩])
           .ret)))))))))))
theorem c22 {args : Array Value} {h : Heap} {R : Ending → Heap → Prop} (ha : args.size ≤ 92) (hh : aexec Try.prog ac22 (abody [(.cellN 2 3), (.slot 3)] R) ⟨initFr args.toList, []⟩ h) : HCalls Try.prog 22 args h R :=
  hcalls_of Try.func22 rfl rfl (by kernel_rfl) (by kernel_rfl) ha hh
/-- 23: credenza/credenzaref02.Frame -/
def ac23 : ACode :=
 (.seq (.ops [
  ⟨(some 2), (.mv (.const (.slice none 0 0))), none⟩])
 (.seq (.ops [
   ⟨(some 5), (.mv (.tmp 0)), none⟩, 
   ⟨(some 6), (.lenSl (.tmp 5)), none⟩, 
   ⟨(some 7), (.convInt .u32 (.tmp 6)), none⟩, 
   ⟨(some 8), (.callF 44 [(.tmp 7)]), none⟩, 
   ⟨(some 3), (.mv (.tmp 8)), none⟩])
  (.seq (.ops [
    ⟨(some 9), (.mv (.tmp 3)), none⟩, 
    ⟨(some 10), (.append 5 1 1 [(.int .u8 0)] (.const (.slice none 0 0)) (.tmp 9)), none⟩, 
    ⟨(some 11), (.mv (.tmp 0)), none⟩, 
    ⟨(some 12), (.append 5 1 1 [(.int .u8 0)] (.tmp 10) (.tmp 11)), none⟩, 
    ⟨(some 4), (.mv (.tmp 12)), none⟩])
   (.seq (.ops [
     ⟨(some 13), (.mv (.tmp 3)), none⟩, 
     ⟨(some 14), (.append 5 1 1 [(.int .u8 0)] (.const (.slice none 0 0)) (.tmp 13)), none⟩, 
     ⟨(some 15), (.mv (.tmp 4)), none⟩, 
     ⟨(some 16), (.callF 45 [(.tmp 15)]), none⟩, 
     ⟨(some 17), (.callF 44 [(.tmp 16)]), none⟩, 
     ⟨(some 18), (.append 5 1 1 [(.int .u8 0)] (.tmp 14) (.tmp 17)), none⟩, 
     ⟨(some 19), (.mv (.tmp 0)), none⟩, 
     ⟨(some 20), (.append 5 1 1 [(.int .u8 0)] (.tmp 18) (.tmp 19)), none⟩, 
     ⟨(some 2), (.mv (.tmp 20)), none⟩])
    .ret))))
theorem c23 {args : Array Value} {h : Heap} {R : Ending → Heap → Prop} (ha : args.size ≤ 21) (hh : aexec Try.prog ac23 (abody [(.slot 2)] R) ⟨initFr args.toList, []⟩ h) : HCalls Try.prog 23 args h R :=
  hcalls_of Try.func23 rfl rfl (by kernel_rfl) (by kernel_rfl) ha hh
/-- 24: credenza/octets.Num -/
def ac24 : ACode :=
 (.seq (.ops [
  ⟨(some 2), (.mv (.const (.slice none 0 0))), none⟩])
 (.seq (.ops [
   ⟨(some 3), (.mv (.const (.slice none 0 0))), none⟩])
  (.seq (.block 0
    (.loop
     (.seq (.seq (.ops [
        ⟨(some 4), (.mv (.tmp 0)), none⟩, 
        ⟨(some 5), (.bin .gtr (.tmp 4) (.const (.int .u64 127))), none⟩])
       (.cond (.tmp 5)
        .skip
        (.exit 0)))
      (.seq (.block 1
        (.ops [
         ⟨(some 8), (.mv (.tmp 3)), none⟩, 
         ⟨(some 9), (.mv (.tmp 0)), none⟩, 
         ⟨(some 10), (.convInt .u8 (.tmp 9)), none⟩, 
         ⟨(some 11), (.bin .or (.tmp 10) (.const (.int .u8 128))), none⟩, 
         ⟨(some 12), (.buildSlice 5 1 [(.int .u8 0)] [(0, 1, (.tmp 11))]), none⟩, 
         ⟨(some 13), (.append 5 1 1 [(.int .u8 0)] (.tmp 8) (.tmp 12)), none⟩, 
         ⟨(some 3), (.mv (.tmp 13)), none⟩]))
       (.ops [
        ⟨(some 6), (.mv (.tmp 0)), none⟩, 
        ⟨(some 7), (.bin .shr (.tmp 6) (.const (.int .u64 7))), none⟩, 
        ⟨(some 0), (.mv (.tmp 7)), none⟩])))))
   (.seq (.ops [
     ⟨(some 14), (.mv (.tmp 3)), none⟩, 
     ⟨(some 15), (.mv (.tmp 0)), none⟩, 
     ⟨(some 16), (.convInt .u8 (.tmp 15)), none⟩, 
     ⟨(some 17), (.buildSlice 5 1 [(.int .u8 0)] [(0, 1, (.tmp 16))]), none⟩, 
     ⟨(some 18), (.append 5 1 1 [(.int .u8 0)] (.tmp 14) (.tmp 17)), none⟩, 
     ⟨(some 2), (.mv (.tmp 18)), none⟩])
    .ret))))
theorem c24 {args : Array Value} {h : Heap} {R : Ending → Heap → Prop} (ha : args.size ≤ 19) (hh : aexec Try.prog ac24 (abody [(.slot 2)] R) ⟨initFr args.toList, []⟩ h) : HCalls Try.prog 24 args h R :=
  hcalls_of Try.func24 rfl rfl (by kernel_rfl) (by kernel_rfl) ha hh
/-- 25: credenza/octets.Text -/
def ac25 : ACode :=
 (.seq (.ops [
  ⟨(some 2), (.mv (.const (.slice none 0 0))), none⟩])
 (.seq (.ops [
   ⟨(some 3), (.mv (.tmp 0)), none⟩, 
   ⟨(some 4), (.lenStr (.tmp 3)), none⟩, 
   ⟨(some 5), (.convInt .u64 (.tmp 4)), none⟩, 
   ⟨(some 6), (.callF 24 [(.tmp 5)]), none⟩, 
   ⟨(some 7), (.mv (.tmp 0)), none⟩, 
   ⟨(some 8), (.append 5 1 1 [(.int .u8 0)] (.tmp 6) (.tmp 7)), none⟩, 
   ⟨(some 2), (.mv (.tmp 8)), none⟩])
  .ret))
theorem c25 {args : Array Value} {h : Heap} {R : Ending → Heap → Prop} (ha : args.size ≤ 9) (hh : aexec Try.prog ac25 (abody [(.slot 2)] R) ⟨initFr args.toList, []⟩ h) : HCalls Try.prog 25 args h R :=
  hcalls_of Try.func25 rfl rfl (by kernel_rfl) (by kernel_rfl) ha hh
/-- 26: credenza/octets.Frame -/
def ac26 : ACode :=
 (.seq (.ops [
  ⟨(some 2), (.mv (.const (.slice none 0 0))), none⟩])
 (.seq (.ops [
   ⟨(some 4), (.mv (.tmp 0)), none⟩, 
   ⟨(some 5), (.lenSl (.tmp 4)), none⟩, 
   ⟨(some 6), (.bin .add (.const (.int .i64 8)) (.tmp 5)), none⟩, 
   ⟨(some 7), (.mkSlice 5 1 1 [(.int .u8 0)] (.tmp 6) (.tmp 6)), none⟩, 
   ⟨(some 3), (.mv (.tmp 7)), none⟩])
  (.seq (.ops [
    ⟨(some 8), (.mv (.tmp 3)), none⟩, 
    ⟨(some 9), (.mv (.tmp 0)), none⟩, 
    ⟨(some 10), (.lenSl (.tmp 9)), none⟩, 
    ⟨(some 11), (.convInt .u32 (.tmp 10)), none⟩, 
    ⟨(some 12), (.callF 46 [(.tmp 8), (.tmp 11)]), none⟩])
   (.seq (.ops [
     ⟨(some 13), (.mv (.tmp 3)), none⟩, 
     ⟨(some 14), (.sliceSl 1 (.tmp 13) (some (.const (.int .i64 8))) none none), none⟩, 
     ⟨(some 15), (.mv (.tmp 0)), none⟩, 
     ⟨(some 16), (.copy 1 (.tmp 14) (.tmp 15)), none⟩])
    (.seq (.any [17, 18, 19, 20, 21, 22, 23, 24, 25] [
      ⟨(some 17), (.mv (.tmp 3)), none⟩, 
      ⟨(some 18), (.sliceSl 1 (.tmp 17) (some (.const (.int .i64 4))) none none), none⟩, 
      ⟨(some 19), (.mv (.tmp 3)), none⟩, 
      ⟨(some 20), (.sliceSl 1 (.tmp 19) none (some (.const (.int .i64 4))) none), none⟩, 
      ⟨(some 22), (.mv (.tmp 0)), none⟩, 
      ⟨(some 21), (.callF 47 [(.const (.int .u32 4294967295)), (.tmp 20)]), none⟩, 
      ⟨(some 23), (.callF 47 [(.tmp 21), (.tmp 22)]), none⟩, 
      ⟨(some 24), (.un .xor (.tmp 23)), none⟩, 
      ⟨(some 25), (.callF 46 [(.tmp 18), (.tmp 24)]), none⟩])
     (.seq (.ops [
       ⟨(some 26), (.mv (.tmp 3)), none⟩, 
       ⟨(some 2), (.mv (.tmp 26)), none⟩])
      .ret))))))
theorem c26 {args : Array Value} {h : Heap} {R : Ending → Heap → Prop} (ha : args.size ≤ 27) (hh : aexec Try.prog ac26 (abody [(.slot 2)] R) ⟨initFr args.toList, []⟩ h) : HCalls Try.prog 26 args h R :=
  hcalls_of Try.func26 rfl rfl (by kernel_rfl) (by kernel_rfl) ha hh
/-- 27: credenza/credenzaref17.may -/
def ac27 : ACode :=
 (.seq (.ops [
  ⟨(some 1), (.box 25 (.tmp 0)), none⟩, 
  ⟨(some 2), (.mv (.const (.bool false))), none⟩])
 (.seq (.seq (.ops [
    ⟨(some 9), (.fieldAddr 0 (.tmp 1)), none⟩, 
    ⟨(some 10), (.load1 (.tmp 9)), none⟩, 
    ⟨(some 11), (.lenSl (.tmp 10)), none⟩, 
    ⟨(some 12), (.mv (.const (.int .i64 0))), none⟩])
   (.block 0
    (.loop
     (.seq (.ops [
       ⟨(some 13), (.bin .lss (.tmp 12) (.tmp 11)), none⟩])
      (.seq (.cond (.tmp 13)
        .skip
        (.exit 0))
       (.seq (.block 1
         (.seq (.ops [
           ⟨(some 14), (.mv (.tmp 12)), none⟩, 
           ⟨(some 15), (.idxSl 1 (.tmp 10) (.tmp 12)), none⟩, 
           ⟨(some 16), (.load1 (.tmp 15)), none⟩, 
           ⟨(some 3), (.mv (.tmp 14)), none⟩, 
           ⟨(some 4), (.mv (.tmp 16)), none⟩])
          (.seq (.ops [
            ⟨(some 17), (.mv (.tmp 4)), none⟩, 
            ⟨(some 18), (.lenStr (.tmp 17)), none⟩, 
            ⟨(some 19), (.bin .gtr (.tmp 18) (.const (.int .i64 256))), none⟩, 
            ⟨(some 20), (.mv (.tmp 19)), none⟩, 
            ⟨(some 21), (.mv (.tmp 3)), (some (20, false))⟩, 
            ⟨(some 22), (.bin .gtr (.tmp 21) (.const (.int .i64 0))), (some (20, false))⟩, 
            ⟨(some 23), (.mv (.tmp 22)), (some (20, false))⟩, 
            ⟨(some 24), (.fieldAddr 0 (.tmp 1)), (some (23, true))⟩, 
            ⟨(some 25), (.load1 (.tmp 24)), (some (23, true))⟩, 
            ⟨(some 26), (.mv (.tmp 3)), (some (23, true))⟩, 
            ⟨(some 27), (.bin .sub (.tmp 26) (.const (.int .i64 1))), (some (23, true))⟩, 
            ⟨(some 28), (.idxSl 1 (.tmp 25) (.tmp 27)), (some (23, true))⟩, 
            ⟨(some 29), (.load1 (.tmp 28)), (some (23, true))⟩, 
            ⟨(some 30), (.mv (.tmp 4)), (some (23, true))⟩, 
            ⟨(some 31), (.bin .geq (.tmp 29) (.tmp 30)), (some (23, true))⟩, 
            ⟨(some 32), (.pick (.tmp 23) (.tmp 31) (.const (.bool false))), (some (20, false))⟩, 
            ⟨(some 33), (.pick (.tmp 20) (.const (.bool true)) (.tmp 32)), none⟩])
           (.cond (.tmp 33)
            (.seq (.ops [
              ⟨(some 2), (.mv (.const (.bool false))), none⟩])
             .ret)
            .skip))))
        (.ops [
         ⟨(some 34), (.bin .add (.tmp 12) (.const (.int .i64 1))), none⟩, 
         ⟨(some 12), (.mv (.tmp 34)), none⟩])))))))
  (.seq (.seq (.ops [
     ⟨(some 35), (.fieldAddr 1 (.tmp 1)), none⟩, 
     ⟨(some 36), (.load1 (.tmp 35)), none⟩, 
     ⟨(some 37), (.lenSl (.tmp 36)), none⟩, 
     ⟨(some 38), (.mv (.const (.int .i64 0))), none⟩])
    (.block 2
     (.loop
      (.seq (.ops [
        ⟨(some 39), (.bin .lss (.tmp 38) (.tmp 37)), none⟩])
       (.seq (.cond (.tmp 39)
         .skip
         (.exit 2))
        (.seq (.block 3
          (.seq (.ops [
            ⟨(some 40), (.idxSl 1 (.tmp 36) (.tmp 38)), none⟩, 
            ⟨(some 41), (.load1 (.tmp 40)), none⟩, 
            ⟨(some 6), (.mv (.tmp 41)), none⟩])
           (.seq (.ops [
             ⟨(some 42), (.mv (.tmp 6)), none⟩, 
             ⟨(some 43), (.lenStr (.tmp 42)), none⟩, 
             ⟨(some 44), (.bin .gtr (.tmp 43) (.const (.int .i64 1024))), none⟩])
            (.cond (.tmp 44)
             (.seq (.ops [
               ⟨(some 2), (.mv (.const (.bool false))), none⟩])
              .ret)
             .skip))))
         (.ops [
          ⟨(some 45), (.bin .add (.tmp 38) (.const (.int .i64 1))), none⟩, 
          ⟨(some 38), (.mv (.tmp 45)), none⟩])))))))
   (.seq (.seq (.ops [
      ⟨(some 46), (.fieldAddr 2 (.tmp 1)), none⟩, 
      ⟨(some 47), (.load1 (.tmp 46)), none⟩, 
      ⟨(some 48), (.lenSl (.tmp 47)), none⟩, 
      ⟨(some 49), (.mv (.const (.int .i64 0))), none⟩])
     (.block 4
      (.loop
       (.seq (.ops [
         ⟨(some 50), (.bin .lss (.tmp 49) (.tmp 48)), none⟩])
        (.seq (.cond (.tmp 50)
          .skip
          (.exit 4))
         (.seq (.block 5
           (.seq (.ops [
             ⟨(some 51), (.idxSl 1 (.tmp 47) (.tmp 49)), none⟩, 
             ⟨(some 52), (.load1 (.tmp 51)), none⟩, 
             ⟨(some 8), (.mv (.tmp 52)), none⟩])
            (.seq (.ops [
              ⟨(some 53), (.mv (.tmp 8)), none⟩, 
              ⟨(some 54), (.bin .lss (.tmp 53) (.const (.int .i64 1))), none⟩, 
              ⟨(some 55), (.mv (.tmp 54)), none⟩, 
              ⟨(some 56), (.mv (.tmp 8)), (some (55, false))⟩, 
              ⟨(some 57), (.bin .gtr (.tmp 56) (.const (.int .i64 2147483647))), (some (55, false))⟩, 
              ⟨(some 58), (.pick (.tmp 55) (.const (.bool true)) (.tmp 57)), none⟩])
             (.cond (.tmp 58)
              (.seq (.ops [
                ⟨(some 2), (.mv (.const (.bool false))), none⟩])
               .ret)
              .skip))))
          (.ops [
           ⟨(some 59), (.bin .add (.tmp 49) (.const (.int .i64 1))), none⟩, 
           ⟨(some 49), (.mv (.tmp 59)), none⟩])))))))
    (.seq (.seq (.ops [
       ⟨(some 60), (.fieldAddr 2 (.tmp 1)), none⟩, 
       ⟨(some 61), (.load1 (.tmp 60)), none⟩, 
       ⟨(some 62), (.lenSl (.tmp 61)), none⟩, 
       ⟨(some 63), (.bin .eql (.tmp 62) (.const (.int .i64 0))), none⟩])
      (.cond (.tmp 63)
       (.seq (.ops [
         ⟨(some 64), (.fieldAddr 0 (.tmp 1)), none⟩, 
         ⟨(some 65), (.load1 (.tmp 64)), none⟩, 
         ⟨(some 66), (.lenSl (.tmp 65)), none⟩, 
         ⟨(some 67), (.bin .leq (.tmp 66) (.const (.int .i64 3))), none⟩, 
         ⟨(some 68), (.mv (.tmp 67)), none⟩, 
         ⟨(some 69), (.fieldAddr 1 (.tmp 1)), (some (68, true))⟩, 
         ⟨(some 70), (.load1 (.tmp 69)), (some (68, true))⟩, 
         ⟨(some 71), (.lenSl (.tmp 70)), (some (68, true))⟩, 
         ⟨(some 72), (.fieldAddr 0 (.tmp 1)), (some (68, true))⟩, 
         ⟨(some 73), (.load1 (.tmp 72)), (some (68, true))⟩, 
         ⟨(some 74), (.lenSl (.tmp 73)), (some (68, true))⟩, 
         ⟨(some 75), (.bin .eql (.tmp 71) (.tmp 74)), (some (68, true))⟩, 
         ⟨(some 76), (.pick (.tmp 68) (.tmp 75) (.const (.bool false))), none⟩, 
         ⟨(some 2), (.mv (.tmp 76)), none⟩])
        .ret)
       .skip))
     (.seq (.ops [
       ⟨(some 77), (.fieldAddr 2 (.tmp 1)), none⟩, 
       ⟨(some 78), (.load1 (.tmp 77)), none⟩, 
       ⟨(some 79), (.lenSl (.tmp 78)), none⟩, 
       ⟨(some 80), (.bin .geq (.tmp 79) (.const (.int .i64 2))), none⟩, 
       ⟨(some 81), (.mv (.tmp 80)), none⟩, 
       ⟨(some 82), (.fieldAddr 2 (.tmp 1)), (some (81, true))⟩, 
       ⟨(some 83), (.load1 (.tmp 82)), (some (81, true))⟩, 
       ⟨(some 84), (.lenSl (.tmp 83)), (some (81, true))⟩, 
       ⟨(some 85), (.bin .leq (.tmp 84) (.const (.int .i64 12))), (some (81, true))⟩, 
       ⟨(some 86), (.pick (.tmp 81) (.tmp 85) (.const (.bool false))), none⟩, 
       ⟨(some 87), (.mv (.tmp 86)), none⟩, 
       ⟨(some 88), (.fieldAddr 0 (.tmp 1)), (some (87, true))⟩, 
       ⟨(some 89), (.load1 (.tmp 88)), (some (87, true))⟩, 
       ⟨(some 90), (.lenSl (.tmp 89)), (some (87, true))⟩, 
       ⟨(some 91), (.fieldAddr 2 (.tmp 1)), (some (87, true))⟩, 
       ⟨(some 92), (.load1 (.tmp 91)), (some (87, true))⟩, 
       ⟨(some 93), (.lenSl (.tmp 92)), (some (87, true))⟩, 
       ⟨(some 94), (.bin .sub (.tmp 93) (.const (.int .i64 1))), (some (87, true))⟩, 
       ⟨(some 95), (.bin .eql (.tmp 90) (.tmp 94)), (some (87, true))⟩, 
       ⟨(some 96), (.pick (.tmp 87) (.tmp 95) (.const (.bool false))), none⟩, 
       ⟨(some 97), (.mv (.tmp 96)), none⟩, 
       ⟨(some 98), (.fieldAddr 1 (.tmp 1)), (some (97, true))⟩, 
       ⟨(some 99), (.load1 (.tmp 98)), (some (97, true))⟩, 
       ⟨(some 100), (.lenSl (.tmp 99)), (some (97, true))⟩, 
       ⟨(some 101), (.bin .eql (.tmp 100) (.const (.int .i64 0))), (some (97, true))⟩, 
       ⟨(some 102), (.pick (.tmp 97) (.tmp 101) (.const (.bool false))), none⟩, 
       ⟨(some 2), (.mv (.tmp 102)), none⟩])
      .ret))))))
theorem c27 {args : Array Value} {h : Heap} {R : Ending → Heap → Prop} (ha : args.size ≤ 103) (hh : aexec Try.prog ac27 (abody [(.slot 2)] R) ⟨initFr args.toList, []⟩ h) : HCalls Try.prog 27 args h R :=
  hcalls_of Try.func27 rfl rfl (by kernel_rfl) (by kernel_rfl) ha hh
/-- 28: credenza/credenzaref17.bytes -/
def ac28 : ACode :=
 (.seq (.ops [
  ⟨(some 1), (.box 25 (.tmp 0)), none⟩, 
  ⟨(some 2), (.mv (.const (.slice none 0 0))), none⟩])
 (.seq (.seq (.ops [
    ⟨(some 11), (.fieldAddr 2 (.tmp 1)), none⟩, 
    ⟨(some 12), (.load1 (.tmp 11)), none⟩, 
    ⟨(some 13), (.lenSl (.tmp 12)), none⟩, 
    ⟨(some 14), (.bin .eql (.tmp 13) (.const (.int .i64 0))), none⟩])
   (.cond (.tmp 14)
    (.seq (.ops [
      ⟨(some 15), (.buildSlice 5 1 [(.int .u8 0)] [(0, 1, (.const (.int .u8 0)))]), none⟩, 
      ⟨(some 16), (.fieldAddr 0 (.tmp 1)), none⟩, 
      ⟨(some 17), (.load1 (.tmp 16)), none⟩, 
      ⟨(some 18), (.lenSl (.tmp 17)), none⟩, 
      ⟨(some 19), (.convInt .u64 (.tmp 18)), none⟩, 
      ⟨(some 20), (.callF 48 [(.tmp 19)]), none⟩, 
      ⟨(some 21), (.append 5 1 1 [(.int .u8 0)] (.tmp 15) (.tmp 20)), none⟩, 
      ⟨(some 3), (.mv (.tmp 21)), none⟩])
     (.seq (.seq (.ops [
        ⟨(some 22), (.fieldAddr 0 (.tmp 1)), none⟩, 
        ⟨(some 23), (.load1 (.tmp 22)), none⟩, 
        ⟨(some 24), (.lenSl (.tmp 23)), none⟩, 
        ⟨(some 25), (.mv (.const (.int .i64 0))), none⟩])
       (.block 0
        (.loop
         (.seq (.ops [
           ⟨(some 26), (.bin .lss (.tmp 25) (.tmp 24)), none⟩])
          (.seq (.cond (.tmp 26)
            .skip
            (.exit 0))
           (.seq (.block 1
             (.seq (.ops [
               ⟨(some 27), (.mv (.tmp 25)), none⟩, 
               ⟨(some 28), (.idxSl 1 (.tmp 23) (.tmp 25)), none⟩, 
               ⟨(some 29), (.load1 (.tmp 28)), none⟩, 
               ⟨(some 4), (.mv (.tmp 27)), none⟩, 
               ⟨(some 5), (.mv (.tmp 29)), none⟩])
              (.seq (.any [30, 31, 32, 33, 34, 35, 36, 37, 38, 39, 40, 3] [
                ⟨(some 30), (.mv (.tmp 3)), none⟩, 
                ⟨(some 31), (.mv (.tmp 5)), none⟩, 
                ⟨(some 34), (.fieldAddr 1 (.tmp 1)), none⟩, 
                ⟨(some 36), (.mv (.tmp 4)), none⟩])
               (.alt
                (.seq (.any [30, 31, 32, 33, 34, 35, 36, 37, 38, 39, 40, 3] [
                  ⟨(some 32), (.callF 49 [(.tmp 31)]), none⟩])
                 (.alt
                  (.any [30, 31, 32, 33, 34, 35, 36, 37, 38, 39, 40, 3] [
                   ⟨(some 33), (.append 5 1 1 [(.int .u8 0)] (.tmp 30) (.tmp 32)), none⟩, 
                   ⟨(some 35), (.load1 (.tmp 34)), none⟩, 
                   ⟨(some 37), (.idxSl 1 (.tmp 35) (.tmp 36)), none⟩, 
                   ⟨(some 38), (.load1 (.tmp 37)), none⟩, 
                   ⟨(some 39), (.callF 49 [(.tmp 38)]), none⟩, 
                   ⟨(some 40), (.append 5 1 1 [(.int .u8 0)] (.tmp 33) (.tmp 39)), none⟩, 
                   ⟨(some 3), (.mv (.tmp 40)), none⟩])
                  (.seq (.any [30, 31, 32, 33, 34, 35, 36, 37, 38, 39, 40, 3] [
                    ⟨(some 35), (.load1 (.tmp 34)), none⟩, 
                    ⟨(some 37), (.idxSl 1 (.tmp 35) (.tmp 36)), none⟩])
                   (.alt
                    (.any [30, 31, 32, 33, 34, 35, 36, 37, 38, 39, 40, 3] [
                     ⟨(some 33), (.append 5 1 1 [(.int .u8 0)] (.tmp 30) (.tmp 32)), none⟩, 
                     ⟨(some 38), (.load1 (.tmp 37)), none⟩, 
                     ⟨(some 39), (.callF 49 [(.tmp 38)]), none⟩, 
                     ⟨(some 40), (.append 5 1 1 [(.int .u8 0)] (.tmp 33) (.tmp 39)), none⟩, 
                     ⟨(some 3), (.mv (.tmp 40)), none⟩])
                    (.any [30, 31, 32, 33, 34, 35, 36, 37, 38, 39, 40, 3] [
                     ⟨(some 38), (.load1 (.tmp 37)), none⟩, 
                     ⟨(some 33), (.append 5 1 1 [(.int .u8 0)] (.tmp 30) (.tmp 32)), none⟩, 
                     ⟨(some 39), (.callF 49 [(.tmp 38)]), none⟩, 
                     ⟨(some 40), (.append 5 1 1 [(.int .u8 0)] (.tmp 33) (.tmp 39)), none⟩, 
                     ⟨(some 3), (.mv (.tmp 40)), none⟩])))))
                (.seq (.any [30, 31, 32, 33, 34, 35, 36, 37, 38, 39, 40, 3] [
                  ⟨(some 35), (.load1 (.tmp 34)), none⟩, 
                  ⟨(some 37), (.idxSl 1 (.tmp 35) (.tmp 36)), none⟩])
                 (.alt
                  (.seq (.any [30, 31, 32, 33, 34, 35, 36, 37, 38, 39, 40, 3] [
                    ⟨(some 32), (.callF 49 [(.tmp 31)]), none⟩])
                   (.alt
                    (.any [30, 31, 32, 33, 34, 35, 36, 37, 38, 39, 40, 3] [
                     ⟨(some 33), (.append 5 1 1 [(.int .u8 0)] (.tmp 30) (.tmp 32)), none⟩, 
                     ⟨(some 38), (.load1 (.tmp 37)), none⟩, 
                     ⟨(some 39), (.callF 49 [(.tmp 38)]), none⟩, 
                     ⟨(some 40), (.append 5 1 1 [(.int .u8 0)] (.tmp 33) (.tmp 39)), none⟩, 
                     ⟨(some 3), (.mv (.tmp 40)), none⟩])
                    (.any [30, 31, 32, 33, 34, 35, 36, 37, 38, 39, 40, 3] [
                     ⟨(some 38), (.load1 (.tmp 37)), none⟩, 
                     ⟨(some 33), (.append 5 1 1 [(.int .u8 0)] (.tmp 30) (.tmp 32)), none⟩, 
                     ⟨(some 39), (.callF 49 [(.tmp 38)]), none⟩, 
                     ⟨(some 40), (.append 5 1 1 [(.int .u8 0)] (.tmp 33) (.tmp 39)), none⟩, 
                     ⟨(some 3), (.mv (.tmp 40)), none⟩])))
                  (.any [30, 31, 32, 33, 34, 35, 36, 37, 38, 39, 40, 3] [
                   ⟨(some 38), (.load1 (.tmp 37)), none⟩, 
                   ⟨(some 32), (.callF 49 [(.tmp 31)]), none⟩, 
                   ⟨(some 33), (.append 5 1 1 [(.int .u8 0)] (.tmp 30) (.tmp 32)), none⟩, 
                   ⟨(some 39), (.callF 49 [(.tmp 38)]), none⟩, 
                   ⟨(some 40), (.append 5 1 1 [(.int .u8 0)] (.tmp 33) (.tmp 39)), none⟩, 
                   ⟨(some 3), (.mv (.tmp 40)), none⟩])))))))
            (.ops [
             ⟨(some 41), (.bin .add (.tmp 25) (.const (.int .i64 1))), none⟩, 
             ⟨(some 25), (.mv (.tmp 41)), none⟩])))))))
      (.seq (.ops [
        ⟨(some 42), (.mv (.tmp 3)), none⟩, 
        ⟨(some 2), (.mv (.tmp 42)), none⟩])
       .ret)))
    .skip))
  (.seq (.ops [
    ⟨(some 43), (.buildSlice 5 1 [(.int .u8 0)] [(0, 1, (.const (.int .u8 1)))]), none⟩, 
    ⟨(some 44), (.fieldAddr 2 (.tmp 1)), none⟩, 
    ⟨(some 45), (.load1 (.tmp 44)), none⟩, 
    ⟨(some 46), (.lenSl (.tmp 45)), none⟩, 
    ⟨(some 47), (.convInt .u64 (.tmp 46)), none⟩, 
    ⟨(some 48), (.callF 48 [(.tmp 47)]), none⟩, 
    ⟨(some 49), (.append 5 1 1 [(.int .u8 0)] (.tmp 43) (.tmp 48)), none⟩, 
    ⟨(some 6), (.mv (.tmp 49)), none⟩])
   (.seq (.seq (.ops [
      ⟨(some 50), (.fieldAddr 2 (.tmp 1)), none⟩, 
      ⟨(some 51), (.load1 (.tmp 50)), none⟩, 
      ⟨(some 52), (.lenSl (.tmp 51)), none⟩, 
      ⟨(some 53), (.mv (.const (.int .i64 0))), none⟩])
     (.block 2
      (.loop
       (.seq (.ops [
         ⟨(some 54), (.bin .lss (.tmp 53) (.tmp 52)), none⟩])
        (.seq (.cond (.tmp 54)
          .skip
          (.exit 2))
         (.seq (.block 3
           (.seq (.ops [
             ⟨(some 55), (.idxSl 1 (.tmp 51) (.tmp 53)), none⟩, 
             ⟨(some 56), (.load1 (.tmp 55)), none⟩, 
             ⟨(some 8), (.mv (.tmp 56)), none⟩])
            (.ops [
             ⟨(some 57), (.mv (.tmp 6)), none⟩, 
             ⟨(some 58), (.mv (.tmp 8)), none⟩, 
             ⟨(some 59), (.convInt .u64 (.tmp 58)), none⟩, 
             ⟨(some 60), (.callF 48 [(.tmp 59)]), none⟩, 
             ⟨(some 61), (.append 5 1 1 [(.int .u8 0)] (.tmp 57) (.tmp 60)), none⟩, 
             ⟨(some 6), (.mv (.tmp 61)), none⟩])))
          (.ops [
           ⟨(some 62), (.bin .add (.tmp 53) (.const (.int .i64 1))), none⟩, 
           ⟨(some 53), (.mv (.tmp 62)), none⟩])))))))
    (.seq (.seq (.ops [
       ⟨(some 63), (.fieldAddr 0 (.tmp 1)), none⟩, 
       ⟨(some 64), (.load1 (.tmp 63)), none⟩, 
       ⟨(some 65), (.lenSl (.tmp 64)), none⟩, 
       ⟨(some 66), (.mv (.const (.int .i64 0))), none⟩])
      (.block 4
       (.loop
        (.seq (.ops [
          ⟨(some 67), (.bin .lss (.tmp 66) (.tmp 65)), none⟩])
         (.seq (.cond (.tmp 67)
           .skip
           (.exit 4))
          (.seq (.block 5
            (.seq (.ops [
              ⟨(some 68), (.idxSl 1 (.tmp 64) (.tmp 66)), none⟩, 
              ⟨(some 69), (.load1 (.tmp 68)), none⟩, 
              ⟨(some 10), (.mv (.tmp 69)), none⟩])
             (.ops [
              ⟨(some 70), (.mv (.tmp 6)), none⟩, 
              ⟨(some 71), (.mv (.tmp 10)), none⟩, 
              ⟨(some 72), (.callF 49 [(.tmp 71)]), none⟩, 
              ⟨(some 73), (.append 5 1 1 [(.int .u8 0)] (.tmp 70) (.tmp 72)), none⟩, 
              ⟨(some 6), (.mv (.tmp 73)), none⟩])))
           (.ops [
            ⟨(some 74), (.bin .add (.tmp 66) (.const (.int .i64 1))), none⟩, 
            ⟨(some 66), (.mv (.tmp 74)), none⟩])))))))
     (.seq (.ops [
       ⟨(some 75), (.mv (.tmp 6)), none⟩, 
       ⟨(some 2), (.mv (.tmp 75)), none⟩])
      .ret))))))
theorem c28 {args : Array Value} {h : Heap} {R : Ending → Heap → Prop} (ha : args.size ≤ 76) (hh : aexec Try.prog ac28 (abody [(.slot 2)] R) ⟨initFr args.toList, []⟩ h) : HCalls Try.prog 28 args h R :=
  hcalls_of Try.func28 rfl rfl (by kernel_rfl) (by kernel_rfl) ha hh
/-- 29: slices.IsSorted[[]string,string] -/
def ac29 : ACode :=
 (.seq (.ops [
  ⟨(some 2), (.mv (.const (.bool false))), none⟩])
 (.seq (.seq (.ops [
    ⟨(some 4), (.mv (.tmp 0)), none⟩, 
    ⟨(some 5), (.lenSl (.tmp 4)), none⟩, 
    ⟨(some 6), (.bin .sub (.tmp 5) (.const (.int .i64 1))), none⟩, 
    ⟨(some 3), (.mv (.tmp 6)), none⟩])
   (.block 0
    (.loop
     (.seq (.seq (.ops [
        ⟨(some 7), (.mv (.tmp 3)), none⟩, 
        ⟨(some 8), (.bin .gtr (.tmp 7) (.const (.int .i64 0))), none⟩])
       (.cond (.tmp 8)
        .skip
        (.exit 0)))
      (.seq (.block 1
        (.seq (.any [11, 12, 13, 14, 15, 16, 17, 18, 19, 20] [
          ⟨(some 11), (.mv (.tmp 0)), none⟩, 
          ⟨(some 12), (.mv (.tmp 3)), none⟩, 
          ⟨(some 13), (.idxSl 1 (.tmp 11) (.tmp 12)), none⟩, 
          ⟨(some 14), (.load1 (.tmp 13)), none⟩, 
          ⟨(some 15), (.mv (.tmp 0)), none⟩, 
          ⟨(some 16), (.mv (.tmp 3)), none⟩, 
          ⟨(some 17), (.bin .sub (.tmp 16) (.const (.int .i64 1))), none⟩, 
          ⟨(some 18), (.idxSl 1 (.tmp 15) (.tmp 17)), none⟩, 
          ⟨(some 19), (.load1 (.tmp 18)), none⟩, 
          ⟨(some 20), (.callF 50 [(.tmp 14), (.tmp 19)]), none⟩])
         (.cond (.tmp 20)
          (.seq (.ops [
            ⟨(some 2), (.mv (.const (.bool false))), none⟩])
           .ret)
          .skip)))
       (.ops [
        ⟨(some 9), (.mv (.tmp 3)), none⟩, 
        ⟨(some 10), (.bin .sub (.tmp 9) (.const (.int .i64 1))), none⟩, 
        ⟨(some 3), (.mv (.tmp 10)), none⟩]))))))
  (.seq (.ops [
    ⟨(some 2), (.mv (.const (.bool true))), none⟩])
   .ret)))
theorem c29 {args : Array Value} {h : Heap} {R : Ending → Heap → Prop} (ha : args.size ≤ 21) (hh : aexec Try.prog ac29 (abody [(.slot 2)] R) ⟨initFr args.toList, []⟩ h) : HCalls Try.prog 29 args h R :=
  hcalls_of Try.func29 rfl rfl (by kernel_rfl) (by kernel_rfl) ha hh
/-- 30: sort.Search -/
def ac30 : ACode :=
 (.seq (.ops [
  ⟨(some 4), (.mv (.const (.int .i64 0))), none⟩])
 (.seq (.ops [
   ⟨(some 8), (.mv (.tmp 0)), none⟩, 
   ⟨(some 5), (.mv (.const (.int .i64 0))), none⟩, 
   ⟨(some 6), (.mv (.tmp 8)), none⟩])
  (.seq (.block 0
    (.loop
     (.seq (.seq (.ops [
        ⟨(some 9), (.mv (.tmp 5)), none⟩, 
        ⟨(some 10), (.mv (.tmp 6)), none⟩, 
        ⟨(some 11), (.bin .lss (.tmp 9) (.tmp 10)), none⟩])
       (.cond (.tmp 11)
        .skip
        (.exit 0)))
      (.block 1
       (.seq (.ops [
         ⟨(some 12), (.mv (.tmp 5)), none⟩, 
         ⟨(some 13), (.mv (.tmp 6)), none⟩, 
         ⟨(some 14), (.bin .add (.tmp 12) (.tmp 13)), none⟩, 
         ⟨(some 15), (.convInt .u64 (.tmp 14)), none⟩, 
         ⟨(some 16), (.bin .shr (.tmp 15) (.const (.int .u64 1))), none⟩, 
         ⟨(some 17), (.convInt .i64 (.tmp 16)), none⟩, 
         ⟨(some 7), (.mv (.tmp 17)), none⟩])
        (.seq (.ops [
          ⟨(some 18), (.mv (.tmp 1)), none⟩, 
          ⟨(some 19), (.mv (.tmp 7)), none⟩, 
          ⟨(some 20), (.callV (.tmp 18) [(.tmp 19)]), none⟩, 
          ⟨(some 21), (.un .not (.tmp 20)), none⟩])
         (.cond (.tmp 21)
          (.ops [
           ⟨(some 22), (.mv (.tmp 7)), none⟩, 
           ⟨(some 23), (.bin .add (.tmp 22) (.const (.int .i64 1))), none⟩, 
           ⟨(some 5), (.mv (.tmp 23)), none⟩])
          (.ops [
           ⟨(some 24), (.mv (.tmp 7)), none⟩, 
           ⟨(some 6), (.mv (.tmp 24)), none⟩]))))))))
   (.seq (.ops [
     ⟨(some 25), (.mv (.tmp 5)), none⟩, 
     ⟨(some 4), (.mv (.tmp 25)), none⟩])
    .ret))))
theorem c30 {args : Array Value} {h : Heap} {R : Ending → Heap → Prop} (ha : args.size ≤ 26) (hh : aexec Try.prog ac30 (abody [(.slot 4)] R) ⟨initFr args.toList, []⟩ h) : HCalls Try.prog 30 args h R :=
  hcalls_of Try.func30 rfl rfl (by kernel_rfl) (by kernel_rfl) ha hh
/-- 31: credenza/node.Child$1 -/
def ac31 : ACode :=
 (.seq (.ops [
  ⟨(some 4), (.mv (.const (.bool false))), none⟩])
 (.seq (.any [5, 6, 7, 8, 9, 10, 11, 4] [
   ⟨(some 5), (.fieldAddr 0 (.tmp 1)), none⟩, 
   ⟨(some 6), (.load1 (.tmp 5)), none⟩, 
   ⟨(some 7), (.mv (.tmp 0)), none⟩, 
   ⟨(some 8), (.idxSl 1 (.tmp 6) (.tmp 7)), none⟩, 
   ⟨(some 9), (.load1 (.tmp 8)), none⟩, 
   ⟨(some 10), (.load1 (.tmp 2)), none⟩, 
   ⟨(some 11), (.bin .gtr (.tmp 9) (.tmp 10)), none⟩, 
   ⟨(some 4), (.mv (.tmp 11)), none⟩])
  .ret))
theorem c31 {args : Array Value} {h : Heap} {R : Ending → Heap → Prop} (ha : args.size ≤ 12) (hh : aexec Try.prog ac31 (abody [(.slot 4)] R) ⟨initFr args.toList, []⟩ h) : HCalls Try.prog 31 args h R :=
  hcalls_of Try.func31 rfl rfl (by kernel_rfl) (by kernel_rfl) ha hh
/-- 32: slices.Equal[[]string,string] -/
def ac32 : ACode :=
 (.seq (.ops [
  ⟨(some 4), (.mv (.const (.bool false))), none⟩])
 (.seq (.seq (.ops [
    ⟨(some 6), (.mv (.tmp 0)), none⟩, 
    ⟨(some 7), (.lenSl (.tmp 6)), none⟩, 
    ⟨(some 8), (.mv (.tmp 1)), none⟩, 
    ⟨(some 9), (.lenSl (.tmp 8)), none⟩, 
    ⟨(some 10), (.bin .neq (.tmp 7) (.tmp 9)), none⟩])
   (.cond (.tmp 10)
    (.seq (.ops [
      ⟨(some 4), (.mv (.const (.bool false))), none⟩])
     .ret)
    .skip))
  (.seq (.seq (.ops [
     ⟨(some 11), (.mv (.tmp 0)), none⟩, 
     ⟨(some 12), (.lenSl (.tmp 11)), none⟩, 
     ⟨(some 13), (.mv (.const (.int .i64 0))), none⟩])
    (.block 0
     (.loop
      (.seq (.ops [
        ⟨(some 14), (.bin .lss (.tmp 13) (.tmp 12)), none⟩])
       (.seq (.cond (.tmp 14)
         .skip
         (.exit 0))
        (.seq (.block 1
          (.seq (.ops [
            ⟨(some 15), (.mv (.tmp 13)), none⟩, 
            ⟨(some 5), (.mv (.tmp 15)), none⟩])
           (.seq (.any [16, 17, 18, 19, 20, 21, 22, 23, 24] [
             ⟨(some 16), (.mv (.tmp 0)), none⟩, 
             ⟨(some 17), (.mv (.tmp 5)), none⟩, 
             ⟨(some 18), (.idxSl 1 (.tmp 16) (.tmp 17)), none⟩, 
             ⟨(some 19), (.load1 (.tmp 18)), none⟩, 
             ⟨(some 20), (.mv (.tmp 1)), none⟩, 
             ⟨(some 21), (.mv (.tmp 5)), none⟩, 
             ⟨(some 22), (.idxSl 1 (.tmp 20) (.tmp 21)), none⟩, 
             ⟨(some 23), (.load1 (.tmp 22)), none⟩, 
             ⟨(some 24), (.bin .neq (.tmp 19) (.tmp 23)), none⟩])
            (.cond (.tmp 24)
             (.seq (.ops [
               ⟨(some 4), (.mv (.const (.bool false))), none⟩])
              .ret)
             .skip))))
         (.ops [
          ⟨(some 25), (.bin .add (.tmp 13) (.const (.int .i64 1))), none⟩, 
          ⟨(some 13), (.mv (.tmp 25)), none⟩])))))))
   (.seq (.ops [
     ⟨(some 4), (.mv (.const (.bool true))), none⟩])
    .ret))))
theorem c32 {args : Array Value} {h : Heap} {R : Ending → Heap → Prop} (ha : args.size ≤ 26) (hh : aexec Try.prog ac32 (abody [(.slot 4)] R) ⟨initFr args.toList, []⟩ h) : HCalls Try.prog 32 args h R :=
  hcalls_of Try.func32 rfl rfl (by kernel_rfl) (by kernel_rfl) ha hh
/-- 33: slices.Equal[[]int,int] -/
def ac33 : ACode :=
 (.seq (.ops [
  ⟨(some 4), (.mv (.const (.bool false))), none⟩])
 (.seq (.seq (.ops [
    ⟨(some 6), (.mv (.tmp 0)), none⟩, 
    ⟨(some 7), (.lenSl (.tmp 6)), none⟩, 
    ⟨(some 8), (.mv (.tmp 1)), none⟩, 
    ⟨(some 9), (.lenSl (.tmp 8)), none⟩, 
    ⟨(some 10), (.bin .neq (.tmp 7) (.tmp 9)), none⟩])
   (.cond (.tmp 10)
    (.seq (.ops [
      ⟨(some 4), (.mv (.const (.bool false))), none⟩])
     .ret)
    .skip))
  (.seq (.seq (.ops [
     ⟨(some 11), (.mv (.tmp 0)), none⟩, 
     ⟨(some 12), (.lenSl (.tmp 11)), none⟩, 
     ⟨(some 13), (.mv (.const (.int .i64 0))), none⟩])
    (.block 0
     (.loop
      (.seq (.ops [
        ⟨(some 14), (.bin .lss (.tmp 13) (.tmp 12)), none⟩])
       (.seq (.cond (.tmp 14)
         .skip
         (.exit 0))
        (.seq (.block 1
          (.seq (.ops [
            ⟨(some 15), (.mv (.tmp 13)), none⟩, 
            ⟨(some 5), (.mv (.tmp 15)), none⟩])
           (.seq (.any [16, 17, 18, 19, 20, 21, 22, 23, 24] [
             ⟨(some 16), (.mv (.tmp 0)), none⟩, 
             ⟨(some 17), (.mv (.tmp 5)), none⟩, 
             ⟨(some 18), (.idxSl 1 (.tmp 16) (.tmp 17)), none⟩, 
             ⟨(some 19), (.load1 (.tmp 18)), none⟩, 
             ⟨(some 20), (.mv (.tmp 1)), none⟩, 
             ⟨(some 21), (.mv (.tmp 5)), none⟩, 
             ⟨(some 22), (.idxSl 1 (.tmp 20) (.tmp 21)), none⟩, 
             ⟨(some 23), (.load1 (.tmp 22)), none⟩, 
             ⟨(some 24), (.bin .neq (.tmp 19) (.tmp 23)), none⟩])
            (.cond (.tmp 24)
             (.seq (.ops [
               ⟨(some 4), (.mv (.const (.bool false))), none⟩])
              .ret)
             .skip))))
         (.ops [
          ⟨(some 25), (.bin .add (.tmp 13) (.const (.int .i64 1))), none⟩, 
          ⟨(some 13), (.mv (.tmp 25)), none⟩])))))))
   (.seq (.ops [
     ⟨(some 4), (.mv (.const (.bool true))), none⟩])
    .ret))))
theorem c33 {args : Array Value} {h : Heap} {R : Ending → Heap → Prop} (ha : args.size ≤ 26) (hh : aexec Try.prog ac33 (abody [(.slot 4)] R) ⟨initFr args.toList, []⟩ h) : HCalls Try.prog 33 args h R :=
  hcalls_of Try.func33 rfl rfl (by kernel_rfl) (by kernel_rfl) ha hh
/-- 34: credenza/credenzaref09.SameNames -/
def ac34 : ACode :=
 (.seq (.ops [
  ⟨(some 4), (.mv (.const (.bool false))), none⟩])
 (.seq (.seq (.ops [
    ⟨(some 6), (.mv (.tmp 0)), none⟩, 
    ⟨(some 7), (.lenSl (.tmp 6)), none⟩, 
    ⟨(some 8), (.mv (.tmp 1)), none⟩, 
    ⟨(some 9), (.lenSl (.tmp 8)), none⟩, 
    ⟨(some 10), (.bin .neq (.tmp 7) (.tmp 9)), none⟩])
   (.cond (.tmp 10)
    (.seq (.ops [
      ⟨(some 4), (.mv (.const (.bool false))), none⟩])
     .ret)
    .skip))
  (.seq (.seq (.ops [
     ⟨(some 11), (.mv (.tmp 0)), none⟩, 
     ⟨(some 12), (.lenSl (.tmp 11)), none⟩, 
     ⟨(some 13), (.mv (.const (.int .i64 0))), none⟩])
    (.block 0
     (.loop
      (.seq (.ops [
        ⟨(some 14), (.bin .lss (.tmp 13) (.tmp 12)), none⟩])
       (.seq (.cond (.tmp 14)
         .skip
         (.exit 0))
        (.seq (.block 1
          (.seq (.ops [
            ⟨(some 15), (.mv (.tmp 13)), none⟩, 
            ⟨(some 5), (.mv (.tmp 15)), none⟩])
           (.seq (.any [16, 17, 18, 19, 20, 21, 22, 23, 24] [
             ⟨(some 16), (.mv (.tmp 0)), none⟩, 
             ⟨(some 17), (.mv (.tmp 5)), none⟩, 
             ⟨(some 18), (.idxSl 1 (.tmp 16) (.tmp 17)), none⟩, 
             ⟨(some 19), (.load1 (.tmp 18)), none⟩, 
             ⟨(some 20), (.mv (.tmp 1)), none⟩, 
             ⟨(some 21), (.mv (.tmp 5)), none⟩, 
             ⟨(some 22), (.idxSl 1 (.tmp 20) (.tmp 21)), none⟩, 
             ⟨(some 23), (.load1 (.tmp 22)), none⟩, 
             ⟨(some 24), (.bin .neq (.tmp 19) (.tmp 23)), none⟩])
            (.cond (.tmp 24)
             (.seq (.ops [
               ⟨(some 4), (.mv (.const (.bool false))), none⟩])
              .ret)
             .skip))))
         (.ops [
          ⟨(some 25), (.bin .add (.tmp 13) (.const (.int .i64 1))), none⟩, 
          ⟨(some 13), (.mv (.tmp 25)), none⟩])))))))
   (.seq (.ops [
     ⟨(some 4), (.mv (.const (.bool true))), none⟩])
    .ret))))
theorem c34 {args : Array Value} {h : Heap} {R : Ending → Heap → Prop} (ha : args.size ≤ 26) (hh : aexec Try.prog ac34 (abody [(.slot 4)] R) ⟨initFr args.toList, []⟩ h) : HCalls Try.prog 34 args h R :=
  hcalls_of Try.func34 rfl rfl (by kernel_rfl) (by kernel_rfl) ha hh
/-- 35: credenza/credenzaref16.SameInts -/
def ac35 : ACode :=
 (.seq (.ops [
  ⟨(some 4), (.mv (.const (.bool false))), none⟩])
 (.seq (.seq (.ops [
    ⟨(some 6), (.mv (.tmp 0)), none⟩, 
    ⟨(some 7), (.lenSl (.tmp 6)), none⟩, 
    ⟨(some 8), (.mv (.tmp 1)), none⟩, 
    ⟨(some 9), (.lenSl (.tmp 8)), none⟩, 
    ⟨(some 10), (.bin .neq (.tmp 7) (.tmp 9)), none⟩])
   (.cond (.tmp 10)
    (.seq (.ops [
      ⟨(some 4), (.mv (.const (.bool false))), none⟩])
     .ret)
    .skip))
  (.seq (.seq (.ops [
     ⟨(some 11), (.mv (.tmp 0)), none⟩, 
     ⟨(some 12), (.lenSl (.tmp 11)), none⟩, 
     ⟨(some 13), (.mv (.const (.int .i64 0))), none⟩])
    (.block 0
     (.loop
      (.seq (.ops [
        ⟨(some 14), (.bin .lss (.tmp 13) (.tmp 12)), none⟩])
       (.seq (.cond (.tmp 14)
         .skip
         (.exit 0))
        (.seq (.block 1
          (.seq (.ops [
            ⟨(some 15), (.mv (.tmp 13)), none⟩, 
            ⟨(some 5), (.mv (.tmp 15)), none⟩])
           (.seq (.any [16, 17, 18, 19, 20, 21, 22, 23, 24] [
             ⟨(some 16), (.mv (.tmp 0)), none⟩, 
             ⟨(some 17), (.mv (.tmp 5)), none⟩, 
             ⟨(some 18), (.idxSl 1 (.tmp 16) (.tmp 17)), none⟩, 
             ⟨(some 19), (.load1 (.tmp 18)), none⟩, 
             ⟨(some 20), (.mv (.tmp 1)), none⟩, 
             ⟨(some 21), (.mv (.tmp 5)), none⟩, 
             ⟨(some 22), (.idxSl 1 (.tmp 20) (.tmp 21)), none⟩, 
             ⟨(some 23), (.load1 (.tmp 22)), none⟩, 
             ⟨(some 24), (.bin .neq (.tmp 19) (.tmp 23)), none⟩])
            (.cond (.tmp 24)
             (.seq (.ops [
               ⟨(some 4), (.mv (.const (.bool false))), none⟩])
              .ret)
             .skip))))
         (.ops [
          ⟨(some 25), (.bin .add (.tmp 13) (.const (.int .i64 1))), none⟩, 
          ⟨(some 13), (.mv (.tmp 25)), none⟩])))))))
   (.seq (.ops [
     ⟨(some 4), (.mv (.const (.bool true))), none⟩])
    .ret))))
theorem c35 {args : Array Value} {h : Heap} {R : Ending → Heap → Prop} (ha : args.size ≤ 26) (hh : aexec Try.prog ac35 (abody [(.slot 4)] R) ⟨initFr args.toList, []⟩ h) : HCalls Try.prog 35 args h R :=
  hcalls_of Try.func35 rfl rfl (by kernel_rfl) (by kernel_rfl) ha hh
/-- 36: credenza/octets.Unframe -/
def ac36 : ACode :=
 (.seq (.ops [
  ⟨(some 4), (.mv (.const (.slice none 0 0))), none⟩, 
  ⟨(some 5), (.mv (.const (.int .i64 0))), none⟩, 
  ⟨(some 6), (.mv (.const (.int .i64 0))), none⟩])
 (.seq (.seq (.ops [
    ⟨(some 9), (.mv (.tmp 0)), none⟩, 
    ⟨(some 10), (.lenSl (.tmp 9)), none⟩, 
    ⟨(some 11), (.bin .lss (.tmp 10) (.const (.int .i64 8))), none⟩])
   (.cond (.tmp 11)
    (.seq (.ops [
      ⟨(some 4), (.mv (.const (.slice none 0 0))), none⟩, 
      ⟨(some 5), (.mv (.const (.int .i64 0))), none⟩, 
      ⟨(some 6), (.mv (.const (.int .i64 20))), none⟩])
     .ret)
    .skip))
  (.seq (.ops [
    ⟨(some 12), (.mv (.tmp 0)), none⟩, 
    ⟨(some 13), (.callF 51 [(.tmp 12)]), none⟩, 
    ⟨(some 14), (.convInt .i64 (.tmp 13)), none⟩, 
    ⟨(some 7), (.mv (.tmp 14)), none⟩])
   (.seq (.block 0
     (.seq (.ops [
       ⟨(some 16), (.mv (.tmp 7)), none⟩, 
       ⟨(some 17), (.mv (.tmp 1)), none⟩, 
       ⟨(some 18), (.bin .gtr (.tmp 16) (.tmp 17)), none⟩, 
       ⟨(some 15), (.mv (.tmp 18)), none⟩])
      (.cond (.tmp 15)
       (.seq (.ops [
         ⟨(some 4), (.mv (.const (.slice none 0 0))), none⟩, 
         ⟨(some 5), (.mv (.const (.int .i64 0))), none⟩, 
         ⟨(some 6), (.mv (.const (.int .i64 22))), none⟩])
        .ret)
       (.seq (.ops [
         ⟨(some 20), (.mv (.tmp 7)), none⟩, 
         ⟨(some 21), (.mv (.tmp 0)), none⟩, 
         ⟨(some 22), (.lenSl (.tmp 21)), none⟩, 
         ⟨(some 23), (.bin .sub (.tmp 22) (.const (.int .i64 8))), none⟩, 
         ⟨(some 24), (.bin .gtr (.tmp 20) (.tmp 23)), none⟩, 
         ⟨(some 19), (.mv (.tmp 24)), none⟩])
        (.cond (.tmp 19)
         (.seq (.ops [
           ⟨(some 4), (.mv (.const (.slice none 0 0))), none⟩, 
           ⟨(some 5), (.mv (.const (.int .i64 0))), none⟩, 
           ⟨(some 6), (.mv (.const (.int .i64 20))), none⟩])
          .ret)
         (.seq (.any [26, 27, 28, 29, 30, 31, 32, 33, 34, 35, 36, 37, 38, 25] [
           ⟨(some 26), (.mv (.tmp 0)), none⟩, 
           ⟨(some 27), (.sliceSl 1 (.tmp 26) none (some (.const (.int .i64 4))) none), none⟩, 
           ⟨(some 29), (.mv (.tmp 0)), none⟩, 
           ⟨(some 30), (.mv (.tmp 7)), none⟩, 
           ⟨(some 31), (.bin .add (.const (.int .i64 8)) (.tmp 30)), none⟩, 
           ⟨(some 32), (.sliceSl 1 (.tmp 29) (some (.const (.int .i64 8))) (some (.tmp 31)) none), none⟩, 
           ⟨(some 35), (.mv (.tmp 0)), none⟩, 
           ⟨(some 36), (.sliceSl 1 (.tmp 35) (some (.const (.int .i64 4))) none none), none⟩, 
           ⟨(some 28), (.callF 47 [(.const (.int .u32 4294967295)), (.tmp 27)]), none⟩, 
           ⟨(some 33), (.callF 47 [(.tmp 28), (.tmp 32)]), none⟩, 
           ⟨(some 34), (.un .xor (.tmp 33)), none⟩, 
           ⟨(some 37), (.callF 51 [(.tmp 36)]), none⟩, 
           ⟨(some 38), (.bin .neq (.tmp 34) (.tmp 37)), none⟩, 
           ⟨(some 25), (.mv (.tmp 38)), none⟩])
          (.cond (.tmp 25)
           (.seq (.ops [
             ⟨(some 4), (.mv (.const (.slice none 0 0))), none⟩, 
             ⟨(some 5), (.mv (.const (.int .i64 0))), none⟩, 
             ⟨(some 6), (.mv (.const (.int .i64 21))), none⟩])
            .ret)
           .skip)))))))
    (.seq (.ops [
      ⟨(some 39), (.mv (.tmp 7)), none⟩, 
      ⟨(some 40), (.mkSlice 5 1 1 [(.int .u8 0)] (.tmp 39) (.tmp 39)), none⟩, 
      ⟨(some 8), (.mv (.tmp 40)), none⟩])
     (.seq (.ops [
       ⟨(some 41), (.mv (.tmp 8)), none⟩, 
       ⟨(some 42), (.mv (.tmp 0)), none⟩, 
       ⟨(some 43), (.sliceSl 1 (.tmp 42) (some (.const (.int .i64 8))) none none), none⟩, 
       ⟨(some 44), (.copy 1 (.tmp 41) (.tmp 43)), none⟩])
      (.seq (.ops [
        ⟨(some 45), (.mv (.tmp 8)), none⟩, 
        ⟨(some 46), (.mv (.tmp 7)), none⟩, 
        ⟨(some 47), (.bin .add (.const (.int .i64 8)) (.tmp 46)), none⟩, 
        ⟨(some 4), (.mv (.tmp 45)), none⟩, 
        ⟨(some 5), (.mv (.tmp 47)), none⟩, 
        ⟨(some 6), (.mv (.const (.int .i64 0))), none⟩])
       .ret)))))))
theorem c36 {args : Array Value} {h : Heap} {R : Ending → Heap → Prop} (ha : args.size ≤ 48) (hh : aexec Try.prog ac36 (abody [(.slot 4), (.slot 5), (.slot 6)] R) ⟨initFr args.toList, []⟩ h) : HCalls Try.prog 36 args h R :=
  hcalls_of Try.func36 rfl rfl (by kernel_rfl) (by kernel_rfl) ha hh
/-- 37: slices.ContainsFunc[[]byte,byte] -/
def ac37 : ACode :=
 (.seq (.ops [
  ⟨(some 4), (.mv (.const (.bool false))), none⟩])
 (.seq (.ops [
   ⟨(some 5), (.mv (.tmp 0)), none⟩, 
   ⟨(some 6), (.mv (.tmp 1)), none⟩, 
   ⟨(some 7), (.callF 52 [(.tmp 5), (.tmp 6)]), none⟩, 
   ⟨(some 8), (.bin .geq (.tmp 7) (.const (.int .i64 0))), none⟩, 
   ⟨(some 4), (.mv (.tmp 8)), none⟩])
  .ret))
theorem c37 {args : Array Value} {h : Heap} {R : Ending → Heap → Prop} (ha : args.size ≤ 9) (hh : aexec Try.prog ac37 (abody [(.slot 4)] R) ⟨initFr args.toList, []⟩ h) : HCalls Try.prog 37 args h R :=
  hcalls_of Try.func37 rfl rfl (by kernel_rfl) (by kernel_rfl) ha hh
/-- 38: credenza/node.Decode$1 -/
def ac38 : ACode :=
 (.seq (.ops [
  ⟨(some 2), (.mv (.const (.bool false))), none⟩])
 (.seq (.ops [
   ⟨(some 3), (.mv (.tmp 0)), none⟩, 
   ⟨(some 4), (.bin .neq (.tmp 3) (.const (.int .u8 0))), none⟩, 
   ⟨(some 2), (.mv (.tmp 4)), none⟩])
  .ret))
theorem c38 {args : Array Value} {h : Heap} {R : Ending → Heap → Prop} (ha : args.size ≤ 5) (hh : aexec Try.prog ac38 (abody [(.slot 2)] R) ⟨initFr args.toList, []⟩ h) : HCalls Try.prog 38 args h R :=
  hcalls_of Try.func38 rfl rfl (by kernel_rfl) (by kernel_rfl) ha hh
/-- 39: credenza/node.Decode$2 -/
def ac39 : ACode :=
 (.block 0
 (.seq (.ops [
   ⟨(some 7), (.isNil 0 false (.tmp 5)), none⟩])
  (.cond (.tmp 7)
   (.ops [
    ⟨(some 2), (.mv (.tmp 5)), none⟩])
   (.seq (.ops [
     ⟨(some 8), (.assertT 29 (.int .i64 0) true (.tmp 5)), none⟩, 
     ⟨(some 9), (.extract (.tmp 8) 1), none⟩, 
     ⟨(some 10), (.extract (.tmp 8) 0), none⟩])
    (.cond (.tmp 9)
     (.seq (.ops [
       ⟨(some 3), (.mv (.tmp 10)), none⟩])
      (.ops [
       ⟨(some 11), (.build [(.slice none 0 0), (.slice none 0 0), (.slice none 0 0)] []), none⟩, 
       ⟨(some 12), (.mv (.tmp 3)), none⟩, 
       ⟨none, (.storeN 3 (.tmp 0) (.tmp 11)), none⟩, 
       ⟨none, (.store1 (.tmp 1) (.tmp 12)), none⟩]))
     (.seq (.ops [
       ⟨(some 4), (.mv (.tmp 5)), none⟩])
      (.ops [
       ⟨(some 6), (.mv (.tmp 4)), none⟩, 
       ⟨none, (.panicI (.tmp 6)), none⟩])))))))
theorem d39 {args : Array Value} {h : Heap} {u : FrameMode} {R : Ending → FrameMode → Heap → Prop} (ha : args.size ≤ 13) (hh : aexec Try.prog ac39 (abody [] fun e h' => R e (recov u).2 h') ⟨upd (initFr args.toList) 5 (recov u).1, []⟩ h) : HCallsD Try.prog 39 args u h R :=
  hcallsD_recover Try.func39 rfl rfl rfl (by decide) (by kernel_rfl) (by kernel_rfl) ha hh
/-- 40: (*credenza/node.reader).node -/
def ac40 : ACode :=
 (.seq (.ops [
  ⟨(some 2), (.new 26 [(.slice none 0 0), (.slice none 0 0), (.slice none 0 0)]), none⟩])
 (.seq (.seq (.ops [
    ⟨(some 8), (.mv (.tmp 0)), none⟩, 
    ⟨(some 9), (.nilCheck (.tmp 8)), none⟩, 
    ⟨(some 10), (.fieldAddr 0 (.tmp 9)), none⟩, 
    ⟨(some 11), (.load1 (.tmp 10)), none⟩, 
    ⟨(some 12), (.lenSl (.tmp 11)), none⟩, 
    ⟨(some 13), (.bin .eql (.tmp 12) (.const (.int .i64 0))), none⟩])
   (.cond (.tmp 13)
    (.ops [
     ⟨(some 14), (.mv (.tmp 0)), none⟩, 
     ⟨(some 15), (.callF 53 [(.tmp 14), (.const (.int .i64 0)), (.const (.int .i64 20))]), none⟩])
    .skip))
  (.seq (.ops [
    ⟨(some 16), (.mv (.tmp 0)), none⟩, 
    ⟨(some 17), (.nilCheck (.tmp 16)), none⟩, 
    ⟨(some 18), (.fieldAddr 0 (.tmp 17)), none⟩, 
    ⟨(some 19), (.load1 (.tmp 18)), none⟩, 
    ⟨(some 20), (.idxSl 1 (.tmp 19) (.const (.int .i64 0))), none⟩, 
    ⟨(some 21), (.load1 (.tmp 20)), none⟩, 
    ⟨(some 3), (.mv (.tmp 21)), none⟩])
   (.seq (.seq (.ops [
      ⟨(some 22), (.mv (.tmp 3)), none⟩, 
      ⟨(some 23), (.bin .gtr (.tmp 22) (.const (.int .u8 1))), none⟩])
     (.cond (.tmp 23)
      (.ops [
       ⟨(some 24), (.mv (.tmp 0)), none⟩, 
       ⟨(some 25), (.callF 53 [(.tmp 24), (.const (.int .i64 0)), (.const (.int .i64 22))]), none⟩])
      .skip))
    (.seq (.ops [
      ⟨(some 26), (.mv (.tmp 0)), none⟩, 
      ⟨(some 27), (.callF 53 [(.tmp 26), (.const (.int .i64 1)), (.const (.int .i64 0))]), none⟩])
     (.seq (.ops [
       ⟨(some 28), (.mv (.tmp 0)), none⟩, 
       ⟨(some 29), (.callF 54 [(.tmp 28), (.const (.int .u64 12))]), none⟩, 
       ⟨(some 4), (.mv (.tmp 29)), none⟩])
      (.seq (.seq (.ops [
         ⟨(some 30), (.mv (.tmp 3)), none⟩, 
         ⟨(some 31), (.bin .eql (.tmp 30) (.const (.int .u8 1))), none⟩])
        (.cond (.tmp 31)
         (.seq (.seq (.ops [
            ⟨(some 32), (.mv (.tmp 4)), none⟩, 
            ⟨(some 33), (.mv (.const (.int .i64 0))), none⟩])
           (.block 0
            (.loop
             (.seq (.ops [
               ⟨(some 34), (.bin .lss (.tmp 33) (.tmp 32)), none⟩])
              (.seq (.cond (.tmp 34)
                .skip
                (.exit 0))
               (.seq (.block 1
                 (.seq (.ops [
                   ⟨(some 35), (.mv (.tmp 0)), none⟩, 
                   ⟨(some 36), (.callF 54 [(.tmp 35), (.const (.int .u64 2147483647))]), none⟩, 
                   ⟨(some 5), (.mv (.tmp 36)), none⟩])
                  (.ops [
                   ⟨(some 37), (.fieldAddr 2 (.tmp 2)), none⟩, 
                   ⟨(some 38), (.load1 (.tmp 37)), none⟩, 
                   ⟨(some 39), (.mv (.tmp 5)), none⟩, 
                   ⟨(some 40), (.buildSlice 3 1 [(.int .i64 0)] [(0, 1, (.tmp 39))]), none⟩, 
                   ⟨(some 41), (.append 3 1 8 [(.int .i64 0)] (.tmp 38) (.tmp 40)), none⟩, 
                   ⟨(some 42), (.fieldAddr 2 (.tmp 2)), none⟩, 
                   ⟨none, (.store1 (.tmp 42) (.tmp 41)), none⟩])))
                (.ops [
                 ⟨(some 43), (.bin .add (.tmp 33) (.const (.int .i64 1))), none⟩, 
                 ⟨(some 33), (.mv (.tmp 43)), none⟩])))))))
          (.ops [
           ⟨(some 44), (.mv (.tmp 4)), none⟩, 
           ⟨(some 45), (.bin .sub (.tmp 44) (.const (.int .i64 1))), none⟩, 
           ⟨(some 4), (.mv (.tmp 45)), none⟩]))
         .skip))
       (.seq (.seq (.ops [
          ⟨(some 46), (.mv (.tmp 4)), none⟩, 
          ⟨(some 47), (.mv (.const (.int .i64 0))), none⟩])
         (.block 2
          (.loop
           (.seq (.ops [
             ⟨(some 48), (.bin .lss (.tmp 47) (.tmp 46)), none⟩])
            (.seq (.cond (.tmp 48)
              .skip
              (.exit 2))
             (.seq (.block 3
               (.seq (.ops [
                 ⟨(some 49), (.mv (.tmp 0)), none⟩, 
                 ⟨(some 50), (.callF 55 [(.tmp 49)]), none⟩, 
                 ⟨(some 6), (.mv (.tmp 50)), none⟩])
                (.seq (.ops [
                  ⟨(some 51), (.fieldAddr 0 (.tmp 2)), none⟩, 
                  ⟨(some 52), (.load1 (.tmp 51)), none⟩, 
                  ⟨(some 53), (.mv (.tmp 6)), none⟩, 
                  ⟨(some 54), (.buildSlice 9 1 [(.string ⟨#[]⟩)] [(0, 1, (.tmp 53))]), none⟩, 
                  ⟨(some 55), (.append 9 1 16 [(.string ⟨#[]⟩)] (.tmp 52) (.tmp 54)), none⟩, 
                  ⟨(some 56), (.fieldAddr 0 (.tmp 2)), none⟩, 
                  ⟨none, (.store1 (.tmp 56) (.tmp 55)), none⟩])
                 (.seq (.ops [
                   ⟨(some 57), (.mv (.tmp 3)), none⟩, 
                   ⟨(some 58), (.bin .eql (.tmp 57) (.const (.int .u8 0))), none⟩])
                  (.cond (.tmp 58)
                   (.seq (.ops [
                     ⟨(some 59), (.mv (.tmp 0)), none⟩, 
                     ⟨(some 60), (.callF 55 [(.tmp 59)]), none⟩, 
                     ⟨(some 7), (.mv (.tmp 60)), none⟩])
                    (.ops [
                     ⟨(some 61), (.fieldAddr 1 (.tmp 2)), none⟩, 
                     ⟨(some 62), (.load1 (.tmp 61)), none⟩, 
                     ⟨(some 63), (.mv (.tmp 7)), none⟩, 
                     ⟨(some 64), (.buildSlice 9 1 [(.string ⟨#[]⟩)] [(0, 1, (.tmp 63))]), none⟩, 
                     ⟨(some 65), (.append 9 1 16 [(.string ⟨#[]⟩)] (.tmp 62) (.tmp 64)), none⟩, 
                     ⟨(some 66), (.fieldAddr 1 (.tmp 2)), none⟩, 
                     ⟨none, (.store1 (.tmp 66) (.tmp 65)), none⟩]))
                   .skip)))))
              (.ops [
               ⟨(some 67), (.bin .add (.tmp 47) (.const (.int .i64 1))), none⟩, 
               ⟨(some 47), (.mv (.tmp 67)), none⟩])))))))
        (.seq (.seq (.ops [
           ⟨(some 68), (.mv (.tmp 0)), none⟩, 
           ⟨(some 69), (.nilCheck (.tmp 68)), none⟩, 
           ⟨(some 70), (.fieldAddr 0 (.tmp 69)), none⟩, 
           ⟨(some 71), (.load1 (.tmp 70)), none⟩, 
           ⟨(some 72), (.lenSl (.tmp 71)), none⟩, 
           ⟨(some 73), (.bin .gtr (.tmp 72) (.const (.int .i64 0))), none⟩])
          (.cond (.tmp 73)
           (.ops [
            ⟨(some 74), (.mv (.tmp 0)), none⟩, 
            ⟨(some 75), (.callF 53 [(.tmp 74), (.const (.int .i64 0)), (.const (.int .i64 22))]), none⟩])
           .skip))
         (.seq (.seq (.ops [
            ⟨(some 76), (.loadN 3 (.tmp 2)), none⟩, 
            ⟨(some 77), (.callF 14 [(.tmp 76)]), none⟩, 
            ⟨(some 78), (.bin .neq (.tmp 77) (.const (.int .i64 0))), none⟩, 
            ⟨(some 79), (.mv (.tmp 78)), none⟩, 
            ⟨(some 80), (.mv (.tmp 3)), (some (79, false))⟩, 
            ⟨(some 81), (.bin .eql (.tmp 80) (.const (.int .u8 1))), (some (79, false))⟩, 
            ⟨(some 82), (.mv (.tmp 81)), (some (79, false))⟩, 
            ⟨(some 83), (.fieldAddr 2 (.tmp 2)), (some (82, true))⟩, 
            ⟨(some 84), (.load1 (.tmp 83)), (some (82, true))⟩, 
            ⟨(some 85), (.lenSl (.tmp 84)), (some (82, true))⟩, 
            ⟨(some 86), (.bin .eql (.tmp 85) (.const (.int .i64 0))), (some (82, true))⟩, 
            ⟨(some 87), (.pick (.tmp 82) (.tmp 86) (.const (.bool false))), (some (79, false))⟩, 
            ⟨(some 88), (.pick (.tmp 79) (.const (.bool true)) (.tmp 87)), none⟩])
           (.cond (.tmp 88)
            (.ops [
             ⟨(some 89), (.mv (.tmp 0)), none⟩, 
             ⟨(some 90), (.callF 53 [(.tmp 89), (.const (.int .i64 0)), (.const (.int .i64 190))]), none⟩])
            .skip))
          (.seq (.ops [
            ⟨(some 91), (.loadN 3 (.tmp 2)), none⟩, 
            ⟨none, (.storeN 3 (.tmp 2) (.tmp 91)), none⟩])
           .ret)))))))))))
theorem c40 {args : Array Value} {h : Heap} {R : Ending → Heap → Prop} (ha : args.size ≤ 92) (hh : aexec Try.prog ac40 (abody [(.cellN 2 3)] R) ⟨initFr args.toList, []⟩ h) : HCalls Try.prog 40 args h R :=
  hcalls_of Try.func40 rfl rfl (by kernel_rfl) (by kernel_rfl) ha hh
/-- 41: credenza/credenzaref02.Unframe -/
def ac41 : ACode :=
 (.seq (.ops [
  ⟨(some 4), (.mv (.const (.slice none 0 0))), none⟩, 
  ⟨(some 5), (.mv (.const (.int .i64 0))), none⟩, 
  ⟨(some 6), (.mv (.const (.int .i64 0))), none⟩])
 (.seq (.seq (.ops [
    ⟨(some 9), (.mv (.tmp 0)), none⟩, 
    ⟨(some 10), (.lenSl (.tmp 9)), none⟩, 
    ⟨(some 11), (.bin .lss (.tmp 10) (.const (.int .i64 8))), none⟩])
   (.cond (.tmp 11)
    (.seq (.ops [
      ⟨(some 4), (.mv (.const (.slice none 0 0))), none⟩, 
      ⟨(some 5), (.mv (.const (.int .i64 0))), none⟩, 
      ⟨(some 6), (.mv (.const (.int .i64 20))), none⟩])
     .ret)
    .skip))
  (.seq (.ops [
    ⟨(some 12), (.mv (.tmp 0)), none⟩, 
    ⟨(some 13), (.callF 56 [(.tmp 12)]), none⟩, 
    ⟨(some 7), (.mv (.tmp 13)), none⟩])
   (.seq (.seq (.ops [
      ⟨(some 14), (.mv (.tmp 1)), none⟩, 
      ⟨(some 15), (.bin .lss (.tmp 14) (.const (.int .i64 0))), none⟩, 
      ⟨(some 16), (.mv (.tmp 15)), none⟩, 
      ⟨(some 17), (.mv (.tmp 7)), (some (16, false))⟩, 
      ⟨(some 18), (.convInt .u64 (.tmp 17)), (some (16, false))⟩, 
      ⟨(some 19), (.mv (.tmp 1)), (some (16, false))⟩, 
      ⟨(some 20), (.convInt .u64 (.tmp 19)), (some (16, false))⟩, 
      ⟨(some 21), (.bin .gtr (.tmp 18) (.tmp 20)), (some (16, false))⟩, 
      ⟨(some 22), (.pick (.tmp 16) (.const (.bool true)) (.tmp 21)), none⟩])
     (.cond (.tmp 22)
      (.seq (.ops [
        ⟨(some 4), (.mv (.const (.slice none 0 0))), none⟩, 
        ⟨(some 5), (.mv (.const (.int .i64 0))), none⟩, 
        ⟨(some 6), (.mv (.const (.int .i64 22))), none⟩])
       .ret)
      .skip))
    (.seq (.seq (.ops [
       ⟨(some 23), (.mv (.tmp 7)), none⟩, 
       ⟨(some 24), (.convInt .u64 (.tmp 23)), none⟩, 
       ⟨(some 25), (.mv (.tmp 0)), none⟩, 
       ⟨(some 26), (.lenSl (.tmp 25)), none⟩, 
       ⟨(some 27), (.bin .sub (.tmp 26) (.const (.int .i64 8))), none⟩, 
       ⟨(some 28), (.convInt .u64 (.tmp 27)), none⟩, 
       ⟨(some 29), (.bin .gtr (.tmp 24) (.tmp 28)), none⟩])
      (.cond (.tmp 29)
       (.seq (.ops [
         ⟨(some 4), (.mv (.const (.slice none 0 0))), none⟩, 
         ⟨(some 5), (.mv (.const (.int .i64 0))), none⟩, 
         ⟨(some 6), (.mv (.const (.int .i64 20))), none⟩])
        .ret)
       .skip))
     (.seq (.ops [
       ⟨(some 30), (.mv (.tmp 0)), none⟩, 
       ⟨(some 31), (.mv (.tmp 7)), none⟩, 
       ⟨(some 32), (.convInt .i64 (.tmp 31)), none⟩, 
       ⟨(some 33), (.bin .add (.const (.int .i64 8)) (.tmp 32)), none⟩, 
       ⟨(some 34), (.sliceSl 1 (.tmp 30) (some (.const (.int .i64 8))) (some (.tmp 33)) none), none⟩, 
       ⟨(some 35), (.append 5 1 1 [(.int .u8 0)] (.const (.slice none 0 0)) (.tmp 34)), none⟩, 
       ⟨(some 8), (.mv (.tmp 35)), none⟩])
      (.seq (.seq (.any [36, 37, 38, 39, 40, 41, 42, 43, 44, 45] [
         ⟨(some 36), (.mv (.tmp 0)), none⟩, 
         ⟨(some 37), (.sliceSl 1 (.tmp 36) none (some (.const (.int .i64 4))) none), none⟩, 
         ⟨(some 39), (.mv (.tmp 8)), none⟩, 
         ⟨(some 42), (.mv (.tmp 0)), none⟩, 
         ⟨(some 43), (.sliceSl 1 (.tmp 42) (some (.const (.int .i64 4))) none none), none⟩, 
         ⟨(some 38), (.append 5 1 1 [(.int .u8 0)] (.const (.slice none 0 0)) (.tmp 37)), none⟩, 
         ⟨(some 40), (.append 5 1 1 [(.int .u8 0)] (.tmp 38) (.tmp 39)), none⟩, 
         ⟨(some 41), (.callF 45 [(.tmp 40)]), none⟩, 
         ⟨(some 44), (.callF 56 [(.tmp 43)]), none⟩, 
         ⟨(some 45), (.bin .neq (.tmp 41) (.tmp 44)), none⟩])
        (.cond (.tmp 45)
         (.seq (.ops [
           ⟨(some 4), (.mv (.const (.slice none 0 0))), none⟩, 
           ⟨(some 5), (.mv (.const (.int .i64 0))), none⟩, 
           ⟨(some 6), (.mv (.const (.int .i64 21))), none⟩])
          .ret)
         .skip))
       (.seq (.ops [
         ⟨(some 46), (.mv (.tmp 8)), none⟩, 
         ⟨(some 47), (.mv (.tmp 7)), none⟩, 
         ⟨(some 48), (.convInt .i64 (.tmp 47)), none⟩, 
         ⟨(some 49), (.bin .add (.const (.int .i64 8)) (.tmp 48)), none⟩, 
         ⟨(some 4), (.mv (.tmp 46)), none⟩, 
         ⟨(some 5), (.mv (.tmp 49)), none⟩, 
         ⟨(some 6), (.mv (.const (.int .i64 0))), none⟩])
        .ret))))))))
theorem c41 {args : Array Value} {h : Heap} {R : Ending → Heap → Prop} (ha : args.size ≤ 50) (hh : aexec Try.prog ac41 (abody [(.slot 4), (.slot 5), (.slot 6)] R) ⟨initFr args.toList, []⟩ h) : HCalls Try.prog 41 args h R :=
  hcalls_of Try.func41 rfl rfl (by kernel_rfl) (by kernel_rfl) ha hh
/-- 42: (*credenza/credenzaref17.reader).node -/
def ac42 : ACode :=
 (.seq (.ops [
  ⟨(some 2), (.new 25 [(.slice none 0 0), (.slice none 0 0), (.slice none 0 0)]), none⟩])
 (.seq (.ops [
   ⟨(some 3), (.new 25 [(.slice none 0 0), (.slice none 0 0), (.slice none 0 0)]), none⟩])
  (.seq (.seq (.ops [
     ⟨(some 6), (.mv (.tmp 0)), none⟩, 
     ⟨(some 7), (.nilCheck (.tmp 6)), none⟩, 
     ⟨(some 8), (.fieldAddr 0 (.tmp 7)), none⟩, 
     ⟨(some 9), (.load1 (.tmp 8)), none⟩, 
     ⟨(some 10), (.lenSl (.tmp 9)), none⟩, 
     ⟨(some 11), (.bin .eql (.tmp 10) (.const (.int .i64 0))), none⟩])
    (.cond (.tmp 11)
     (.seq (.ops [
       ⟨(some 12), (.mv (.tmp 0)), none⟩, 
       ⟨(some 13), (.callF 43 [(.tmp 12), (.const (.int .i64 20))]), none⟩])
      (.seq (.ops [
        ⟨(some 14), (.loadN 3 (.tmp 3)), none⟩, 
        ⟨none, (.storeN 3 (.tmp 2) (.tmp 14)), none⟩])
       .ret))
     .skip))
   (.seq (.ops [
     ⟨(some 15), (.mv (.tmp 0)), none⟩, 
     ⟨(some 16), (.nilCheck (.tmp 15)), none⟩, 
     ⟨(some 17), (.fieldAddr 0 (.tmp 16)), none⟩, 
     ⟨(some 18), (.load1 (.tmp 17)), none⟩, 
     ⟨(some 19), (.idxSl 1 (.tmp 18) (.const (.int .i64 0))), none⟩, 
     ⟨(some 20), (.load1 (.tmp 19)), none⟩, 
     ⟨(some 4), (.mv (.tmp 20)), none⟩])
    (.seq (.seq (.ops [
       ⟨(some 21), (.mv (.tmp 4)), none⟩, 
       ⟨(some 22), (.bin .gtr (.tmp 21) (.const (.int .u8 1))), none⟩])
      (.cond (.tmp 22)
       (.seq (.ops [
         ⟨(some 23), (.mv (.tmp 0)), none⟩, 
         ⟨(some 24), (.callF 43 [(.tmp 23), (.const (.int .i64 22))]), none⟩])
        (.seq (.ops [
          ⟨(some 25), (.loadN 3 (.tmp 3)), none⟩, 
          ⟨none, (.storeN 3 (.tmp 2) (.tmp 25)), none⟩])
         .ret))
       .skip))
     (.seq (.ops [
       ⟨(some 26), (.mv (.tmp 0)), none⟩, 
       ⟨(some 27), (.mv (.tmp 0)), none⟩, 
       ⟨(some 28), (.nilCheck (.tmp 27)), none⟩, 
       ⟨(some 29), (.fieldAddr 0 (.tmp 28)), none⟩, 
       ⟨(some 30), (.load1 (.tmp 29)), none⟩, 
       ⟨(some 31), (.sliceSl 1 (.tmp 30) (some (.const (.int .i64 1))) none none), none⟩, 
       ⟨(some 32), (.nilCheck (.tmp 26)), none⟩, 
       ⟨(some 33), (.fieldAddr 0 (.tmp 32)), none⟩, 
       ⟨none, (.store1 (.tmp 33) (.tmp 31)), none⟩])
      (.seq (.ops [
        ⟨(some 34), (.mv (.tmp 0)), none⟩, 
        ⟨(some 35), (.callF 57 [(.tmp 34), (.const (.int .u64 12))]), none⟩, 
        ⟨(some 5), (.mv (.tmp 35)), none⟩])
       (.seq (.seq (.ops [
          ⟨(some 36), (.mv (.tmp 4)), none⟩, 
          ⟨(some 37), (.bin .eql (.tmp 36) (.const (.int .u8 0))), none⟩])
         (.cond (.tmp 37)
          (.seq (.seq (.ops [
             ⟨(some 38), (.mv (.tmp 5)), none⟩, 
             ⟨(some 39), (.mv (.const (.int .i64 0))), none⟩])
            (.block 0
             (.loop
              (.seq (.ops [
                ⟨(some 40), (.bin .lss (.tmp 39) (.tmp 38)), none⟩])
               (.seq (.cond (.tmp 40)
                 .skip
                 (.exit 0))
                (.seq (.block 1
                  (.seq (.seq (.any [41, 42, 43, 44, 45, 46, 47] [
                     ⟨(some 41), (.fieldAddr 0 (.tmp 3)), none⟩, 
                     ⟨(some 43), (.mv (.tmp 0)), none⟩])
                    (.alt
                     (.any [41, 42, 43, 44, 45, 46, 47] [
                      ⟨(some 42), (.load1 (.tmp 41)), none⟩, 
                      ⟨(some 44), (.callF 58 [(.tmp 43)]), none⟩, 
                      ⟨(some 45), (.buildSlice 9 1 [(.string ⟨#[]⟩)] [(0, 1, (.tmp 44))]), none⟩, 
                      ⟨(some 46), (.append 9 1 16 [(.string ⟨#[]⟩)] (.tmp 42) (.tmp 45)), none⟩, 
                      ⟨(some 47), (.fieldAddr 0 (.tmp 3)), none⟩, 
                      ⟨none, (.store1 (.tmp 47) (.tmp 46)), none⟩])
                     (.any [41, 42, 43, 44, 45, 46, 47] [
                      ⟨(some 44), (.callF 58 [(.tmp 43)]), none⟩, 
                      ⟨(some 42), (.load1 (.tmp 41)), none⟩, 
                      ⟨(some 45), (.buildSlice 9 1 [(.string ⟨#[]⟩)] [(0, 1, (.tmp 44))]), none⟩, 
                      ⟨(some 46), (.append 9 1 16 [(.string ⟨#[]⟩)] (.tmp 42) (.tmp 45)), none⟩, 
                      ⟨(some 47), (.fieldAddr 0 (.tmp 3)), none⟩, 
                      ⟨none, (.store1 (.tmp 47) (.tmp 46)), none⟩])))
                   (.seq (.any [48, 49, 50, 51, 52, 53, 54] [
                     ⟨(some 48), (.fieldAddr 1 (.tmp 3)), none⟩, 
                     ⟨(some 50), (.mv (.tmp 0)), none⟩])
                    (.alt
                     (.any [48, 49, 50, 51, 52, 53, 54] [
                      ⟨(some 49), (.load1 (.tmp 48)), none⟩, 
                      ⟨(some 51), (.callF 58 [(.tmp 50)]), none⟩, 
                      ⟨(some 52), (.buildSlice 9 1 [(.string ⟨#[]⟩)] [(0, 1, (.tmp 51))]), none⟩, 
                      ⟨(some 53), (.append 9 1 16 [(.string ⟨#[]⟩)] (.tmp 49) (.tmp 52)), none⟩, 
                      ⟨(some 54), (.fieldAddr 1 (.tmp 3)), none⟩, 
                      ⟨none, (.store1 (.tmp 54) (.tmp 53)), none⟩])
                     (.any [48, 49, 50, 51, 52, 53, 54] [
                      ⟨(some 51), (.callF 58 [(.tmp 50)]), none⟩, 
                      ⟨(some 49), (.load1 (.tmp 48)), none⟩, 
                      ⟨(some 52), (.buildSlice 9 1 [(.string ⟨#[]⟩)] [(0, 1, (.tmp 51))]), none⟩, 
                      ⟨(some 53), (.append 9 1 16 [(.string ⟨#[]⟩)] (.tmp 49) (.tmp 52)), none⟩, 
                      ⟨(some 54), (.fieldAddr 1 (.tmp 3)), none⟩, 
                      ⟨none, (.store1 (.tmp 54) (.tmp 53)), none⟩])))))
                 (.ops [
                  ⟨(some 55), (.bin .add (.tmp 39) (.const (.int .i64 1))), none⟩, 
                  ⟨(some 39), (.mv (.tmp 55)), none⟩])))))))
           (.seq (.ops [
             ⟨(some 56), (.loadN 3 (.tmp 3)), none⟩, 
             ⟨none, (.storeN 3 (.tmp 2) (.tmp 56)), none⟩])
            .ret))
          .skip))
        (.seq (.seq (.ops [
           ⟨(some 57), (.mv (.tmp 5)), none⟩, 
           ⟨(some 58), (.mv (.const (.int .i64 0))), none⟩])
          (.block 2
           (.loop
            (.seq (.ops [
              ⟨(some 59), (.bin .lss (.tmp 58) (.tmp 57)), none⟩])
             (.seq (.cond (.tmp 59)
               .skip
               (.exit 2))
              (.seq (.block 3
                (.seq (.any [60, 61, 62, 63, 64, 65, 66] [
                  ⟨(some 60), (.fieldAddr 2 (.tmp 3)), none⟩, 
                  ⟨(some 62), (.mv (.tmp 0)), none⟩])
                 (.alt
                  (.any [60, 61, 62, 63, 64, 65, 66] [
                   ⟨(some 61), (.load1 (.tmp 60)), none⟩, 
                   ⟨(some 63), (.callF 57 [(.tmp 62), (.const (.int .u64 2147483647))]), none⟩, 
                   ⟨(some 64), (.buildSlice 3 1 [(.int .i64 0)] [(0, 1, (.tmp 63))]), none⟩, 
                   ⟨(some 65), (.append 3 1 8 [(.int .i64 0)] (.tmp 61) (.tmp 64)), none⟩, 
                   ⟨(some 66), (.fieldAddr 2 (.tmp 3)), none⟩, 
                   ⟨none, (.store1 (.tmp 66) (.tmp 65)), none⟩])
                  (.any [60, 61, 62, 63, 64, 65, 66] [
                   ⟨(some 63), (.callF 57 [(.tmp 62), (.const (.int .u64 2147483647))]), none⟩, 
                   ⟨(some 61), (.load1 (.tmp 60)), none⟩, 
                   ⟨(some 64), (.buildSlice 3 1 [(.int .i64 0)] [(0, 1, (.tmp 63))]), none⟩, 
                   ⟨(some 65), (.append 3 1 8 [(.int .i64 0)] (.tmp 61) (.tmp 64)), none⟩, 
                   ⟨(some 66), (.fieldAddr 2 (.tmp 3)), none⟩, 
                   ⟨none, (.store1 (.tmp 66) (.tmp 65)), none⟩]))))
               (.ops [
                ⟨(some 67), (.bin .add (.tmp 58) (.const (.int .i64 1))), none⟩, 
                ⟨(some 58), (.mv (.tmp 67)), none⟩])))))))
         (.seq (.seq (.ops [
            ⟨(some 68), (.mv (.tmp 5)), none⟩, 
            ⟨(some 69), (.bin .sub (.tmp 68) (.const (.int .i64 1))), none⟩, 
            ⟨(some 70), (.mv (.const (.int .i64 0))), none⟩])
           (.block 4
            (.loop
             (.seq (.ops [
               ⟨(some 71), (.bin .lss (.tmp 70) (.tmp 69)), none⟩])
              (.seq (.cond (.tmp 71)
                .skip
                (.exit 4))
               (.seq (.block 5
                 (.seq (.any [72, 73, 74, 75, 76, 77, 78] [
                   ⟨(some 72), (.fieldAddr 0 (.tmp 3)), none⟩, 
                   ⟨(some 74), (.mv (.tmp 0)), none⟩])
                  (.alt
                   (.any [72, 73, 74, 75, 76, 77, 78] [
                    ⟨(some 73), (.load1 (.tmp 72)), none⟩, 
                    ⟨(some 75), (.callF 58 [(.tmp 74)]), none⟩, 
                    ⟨(some 76), (.buildSlice 9 1 [(.string ⟨#[]⟩)] [(0, 1, (.tmp 75))]), none⟩, 
                    ⟨(some 77), (.append 9 1 16 [(.string ⟨#[]⟩)] (.tmp 73) (.tmp 76)), none⟩, 
                    ⟨(some 78), (.fieldAddr 0 (.tmp 3)), none⟩, 
                    ⟨none, (.store1 (.tmp 78) (.tmp 77)), none⟩])
                   (.any [72, 73, 74, 75, 76, 77, 78] [
                    ⟨(some 75), (.callF 58 [(.tmp 74)]), none⟩, 
                    ⟨(some 73), (.load1 (.tmp 72)), none⟩, 
                    ⟨(some 76), (.buildSlice 9 1 [(.string ⟨#[]⟩)] [(0, 1, (.tmp 75))]), none⟩, 
                    ⟨(some 77), (.append 9 1 16 [(.string ⟨#[]⟩)] (.tmp 73) (.tmp 76)), none⟩, 
                    ⟨(some 78), (.fieldAddr 0 (.tmp 3)), none⟩, 
                    ⟨none, (.store1 (.tmp 78) (.tmp 77)), none⟩]))))
                (.ops [
                 ⟨(some 79), (.bin .add (.tmp 70) (.const (.int .i64 1))), none⟩, 
                 ⟨(some 70), (.mv (.tmp 79)), none⟩])))))))
          (.seq (.ops [
            ⟨(some 80), (.loadN 3 (.tmp 3)), none⟩, 
            ⟨none, (.storeN 3 (.tmp 2) (.tmp 80)), none⟩])
           .ret)))))))))))
theorem c42 {args : Array Value} {h : Heap} {R : Ending → Heap → Prop} (ha : args.size ≤ 81) (hh : aexec Try.prog ac42 (abody [(.cellN 2 3)] R) ⟨initFr args.toList, []⟩ h) : HCalls Try.prog 42 args h R :=
  hcalls_of Try.func42 rfl rfl (by kernel_rfl) (by kernel_rfl) ha hh
/-- 43: (*credenza/credenzaref17.reader).fail -/
def ac43 : ACode :=
 (.seq (.ops [
  ⟨(some 4), (.mv (.tmp 0)), none⟩, 
  ⟨(some 5), (.nilCheck (.tmp 4)), none⟩, 
  ⟨(some 6), (.fieldAddr 1 (.tmp 5)), none⟩, 
  ⟨(some 7), (.load1 (.tmp 6)), none⟩, 
  ⟨(some 8), (.bin .eql (.tmp 7) (.const (.int .i64 0))), none⟩])
 (.cond (.tmp 8)
  (.ops [
   ⟨(some 9), (.mv (.tmp 0)), none⟩, 
   ⟨(some 10), (.mv (.tmp 1)), none⟩, 
   ⟨(some 11), (.nilCheck (.tmp 9)), none⟩, 
   ⟨(some 12), (.fieldAddr 1 (.tmp 11)), none⟩, 
   ⟨none, (.store1 (.tmp 12) (.tmp 10)), none⟩])
  .skip))
theorem c43 {args : Array Value} {h : Heap} {R : Ending → Heap → Prop} (ha : args.size ≤ 13) (hh : aexec Try.prog ac43 (abody [] R) ⟨initFr args.toList, []⟩ h) : HCalls Try.prog 43 args h R :=
  hcalls_of Try.func43 rfl rfl (by kernel_rfl) (by kernel_rfl) ha hh
/-- 44: credenza/credenzaref02.four -/
def ac44 : ACode :=
 (.seq (.ops [
  ⟨(some 2), (.mv (.const (.slice none 0 0))), none⟩])
 (.seq (.ops [
   ⟨(some 3), (.mv (.tmp 0)), none⟩, 
   ⟨(some 4), (.bin .shr (.tmp 3) (.const (.int .u64 24))), none⟩, 
   ⟨(some 5), (.convInt .u8 (.tmp 4)), none⟩, 
   ⟨(some 6), (.mv (.tmp 0)), none⟩, 
   ⟨(some 7), (.bin .shr (.tmp 6) (.const (.int .u64 16))), none⟩, 
   ⟨(some 8), (.convInt .u8 (.tmp 7)), none⟩, 
   ⟨(some 9), (.mv (.tmp 0)), none⟩, 
   ⟨(some 10), (.bin .shr (.tmp 9) (.const (.int .u64 8))), none⟩, 
   ⟨(some 11), (.convInt .u8 (.tmp 10)), none⟩, 
   ⟨(some 12), (.mv (.tmp 0)), none⟩, 
   ⟨(some 13), (.convInt .u8 (.tmp 12)), none⟩, 
   ⟨(some 14), (.buildSlice 5 4 [(.int .u8 0), (.int .u8 0), (.int .u8 0), (.int .u8 0)] [(0, 1, (.tmp 5)), (1, 1, (.tmp 8)), (2, 1, (.tmp 11)), (3, 1, (.tmp 13))]), none⟩, 
   ⟨(some 2), (.mv (.tmp 14)), none⟩])
  .ret))
theorem c44 {args : Array Value} {h : Heap} {R : Ending → Heap → Prop} (ha : args.size ≤ 15) (hh : aexec Try.prog ac44 (abody [(.slot 2)] R) ⟨initFr args.toList, []⟩ h) : HCalls Try.prog 44 args h R :=
  hcalls_of Try.func44 rfl rfl (by kernel_rfl) (by kernel_rfl) ha hh
/-- 45: credenza/credenzaref02.Sum -/
def ac45 : ACode :=
 (.seq (.ops [
  ⟨(some 2), (.mv (.const (.int .u32 0))), none⟩])
 (.seq (.ops [
   ⟨(some 3), (.mv (.const (.int .u32 4294967295))), none⟩])
  (.seq (.seq (.ops [
     ⟨(some 7), (.mv (.tmp 0)), none⟩, 
     ⟨(some 8), (.lenSl (.tmp 7)), none⟩, 
     ⟨(some 9), (.mv (.const (.int .i64 0))), none⟩])
    (.block 0
     (.loop
      (.seq (.ops [
        ⟨(some 10), (.bin .lss (.tmp 9) (.tmp 8)), none⟩])
       (.seq (.cond (.tmp 10)
         .skip
         (.exit 0))
        (.seq (.block 1
          (.seq (.ops [
            ⟨(some 11), (.idxSl 1 (.tmp 7) (.tmp 9)), none⟩, 
            ⟨(some 12), (.load1 (.tmp 11)), none⟩, 
            ⟨(some 5), (.mv (.tmp 12)), none⟩])
           (.seq (.ops [
             ⟨(some 13), (.mv (.tmp 3)), none⟩, 
             ⟨(some 14), (.mv (.tmp 5)), none⟩, 
             ⟨(some 15), (.convInt .u32 (.tmp 14)), none⟩, 
             ⟨(some 16), (.bin .xor (.tmp 13) (.tmp 15)), none⟩, 
             ⟨(some 3), (.mv (.tmp 16)), none⟩])
            (.seq (.ops [
              ⟨(some 17), (.mv (.const (.int .i64 0))), none⟩])
             (.block 2
              (.loop
               (.seq (.ops [
                 ⟨(some 18), (.bin .lss (.tmp 17) (.const (.int .i64 8))), none⟩])
                (.seq (.cond (.tmp 18)
                  .skip
                  (.exit 2))
                 (.seq (.block 3
                   (.seq (.ops [
                     ⟨(some 19), (.mv (.tmp 3)), none⟩, 
                     ⟨(some 20), (.bin .rem (.tmp 19) (.const (.int .u32 2))), none⟩, 
                     ⟨(some 6), (.mv (.tmp 20)), none⟩])
                    (.seq (.ops [
                      ⟨(some 21), (.mv (.tmp 3)), none⟩, 
                      ⟨(some 22), (.bin .quo (.tmp 21) (.const (.int .u32 2))), none⟩, 
                      ⟨(some 3), (.mv (.tmp 22)), none⟩])
                     (.seq (.ops [
                       ⟨(some 23), (.mv (.tmp 6)), none⟩, 
                       ⟨(some 24), (.bin .eql (.tmp 23) (.const (.int .u32 1))), none⟩])
                      (.cond (.tmp 24)
                       (.ops [
                        ⟨(some 25), (.mv (.tmp 3)), none⟩, 
                        ⟨(some 26), (.bin .xor (.tmp 25) (.const (.int .u32 3988292384))), none⟩, 
                        ⟨(some 3), (.mv (.tmp 26)), none⟩])
                       .skip)))))
                  (.ops [
                   ⟨(some 27), (.bin .add (.tmp 17) (.const (.int .i64 1))), none⟩, 
                   ⟨(some 17), (.mv (.tmp 27)), none⟩]))))))))))
         (.ops [
          ⟨(some 28), (.bin .add (.tmp 9) (.const (.int .i64 1))), none⟩, 
          ⟨(some 9), (.mv (.tmp 28)), none⟩])))))))
   (.seq (.ops [
     ⟨(some 29), (.mv (.tmp 3)), none⟩, 
     ⟨(some 30), (.bin .sub (.const (.int .u32 4294967295)) (.tmp 29)), none⟩, 
     ⟨(some 2), (.mv (.tmp 30)), none⟩])
    .ret))))
theorem c45 {args : Array Value} {h : Heap} {R : Ending → Heap → Prop} (ha : args.size ≤ 31) (hh : aexec Try.prog ac45 (abody [(.slot 2)] R) ⟨initFr args.toList, []⟩ h) : HCalls Try.prog 45 args h R :=
  hcalls_of Try.func45 rfl rfl (by kernel_rfl) (by kernel_rfl) ha hh
/-- 46: credenza/octets.put -/
def ac46 : ACode :=
 (.ops [
 ⟨(some 4), (.mv (.tmp 0)), none⟩, 
 ⟨(some 5), (.mv (.tmp 0)), none⟩, 
 ⟨(some 6), (.mv (.tmp 0)), none⟩, 
 ⟨(some 7), (.mv (.tmp 0)), none⟩, 
 ⟨(some 8), (.mv (.tmp 1)), none⟩, 
 ⟨(some 9), (.bin .shr (.tmp 8) (.const (.int .u64 24))), none⟩, 
 ⟨(some 10), (.convInt .u8 (.tmp 9)), none⟩, 
 ⟨(some 11), (.mv (.tmp 1)), none⟩, 
 ⟨(some 12), (.bin .shr (.tmp 11) (.const (.int .u64 16))), none⟩, 
 ⟨(some 13), (.convInt .u8 (.tmp 12)), none⟩, 
 ⟨(some 14), (.mv (.tmp 1)), none⟩, 
 ⟨(some 15), (.bin .shr (.tmp 14) (.const (.int .u64 8))), none⟩, 
 ⟨(some 16), (.convInt .u8 (.tmp 15)), none⟩, 
 ⟨(some 17), (.mv (.tmp 1)), none⟩, 
 ⟨(some 18), (.convInt .u8 (.tmp 17)), none⟩, 
 ⟨(some 19), (.idxSl 1 (.tmp 4) (.const (.int .i64 0))), none⟩, 
 ⟨none, (.store1 (.tmp 19) (.tmp 10)), none⟩, 
 ⟨(some 20), (.idxSl 1 (.tmp 5) (.const (.int .i64 1))), none⟩, 
 ⟨none, (.store1 (.tmp 20) (.tmp 13)), none⟩, 
 ⟨(some 21), (.idxSl 1 (.tmp 6) (.const (.int .i64 2))), none⟩, 
 ⟨none, (.store1 (.tmp 21) (.tmp 16)), none⟩, 
 ⟨(some 22), (.idxSl 1 (.tmp 7) (.const (.int .i64 3))), none⟩, 
 ⟨none, (.store1 (.tmp 22) (.tmp 18)), none⟩])
theorem c46 {args : Array Value} {h : Heap} {R : Ending → Heap → Prop} (ha : args.size ≤ 23) (hh : aexec Try.prog ac46 (abody [] R) ⟨initFr args.toList, []⟩ h) : HCalls Try.prog 46 args h R :=
  hcalls_of Try.func46 rfl rfl (by kernel_rfl) (by kernel_rfl) ha hh
/-- 47: credenza/octets.sum -/
def ac47 : ACode :=
 (.seq (.ops [
  ⟨(some 4), (.mv (.const (.int .u32 0))), none⟩])
 (.seq (.seq (.ops [
    ⟨(some 7), (.mv (.tmp 1)), none⟩, 
    ⟨(some 8), (.lenSl (.tmp 7)), none⟩, 
    ⟨(some 9), (.mv (.const (.int .i64 0))), none⟩])
   (.block 0
    (.loop
     (.seq (.ops [
       ⟨(some 10), (.bin .lss (.tmp 9) (.tmp 8)), none⟩])
      (.seq (.cond (.tmp 10)
        .skip
        (.exit 0))
       (.seq (.block 1
         (.seq (.ops [
           ⟨(some 11), (.idxSl 1 (.tmp 7) (.tmp 9)), none⟩, 
           ⟨(some 12), (.load1 (.tmp 11)), none⟩, 
           ⟨(some 6), (.mv (.tmp 12)), none⟩])
          (.seq (.ops [
            ⟨(some 13), (.mv (.tmp 0)), none⟩, 
            ⟨(some 14), (.mv (.tmp 6)), none⟩, 
            ⟨(some 15), (.convInt .u32 (.tmp 14)), none⟩, 
            ⟨(some 16), (.bin .xor (.tmp 13) (.tmp 15)), none⟩, 
            ⟨(some 0), (.mv (.tmp 16)), none⟩])
           (.seq (.ops [
             ⟨(some 17), (.mv (.const (.int .i64 0))), none⟩])
            (.block 2
             (.loop
              (.seq (.ops [
                ⟨(some 18), (.bin .lss (.tmp 17) (.const (.int .i64 8))), none⟩])
               (.seq (.cond (.tmp 18)
                 .skip
                 (.exit 2))
                (.seq (.block 3
                  (.ops [
                   ⟨(some 19), (.mv (.tmp 0)), none⟩, 
                   ⟨(some 20), (.bin .shr (.tmp 19) (.const (.int .u64 1))), none⟩, 
                   ⟨(some 21), (.mv (.tmp 0)), none⟩, 
                   ⟨(some 22), (.bin .and (.tmp 21) (.const (.int .u32 1))), none⟩, 
                   ⟨(some 23), (.un .neg (.tmp 22)), none⟩, 
                   ⟨(some 24), (.bin .and (.const (.int .u32 3988292384)) (.tmp 23)), none⟩, 
                   ⟨(some 25), (.bin .xor (.tmp 20) (.tmp 24)), none⟩, 
                   ⟨(some 0), (.mv (.tmp 25)), none⟩]))
                 (.ops [
                  ⟨(some 26), (.bin .add (.tmp 17) (.const (.int .i64 1))), none⟩, 
                  ⟨(some 17), (.mv (.tmp 26)), none⟩]))))))))))
        (.ops [
         ⟨(some 27), (.bin .add (.tmp 9) (.const (.int .i64 1))), none⟩, 
         ⟨(some 9), (.mv (.tmp 27)), none⟩])))))))
  (.seq (.ops [
    ⟨(some 28), (.mv (.tmp 0)), none⟩, 
    ⟨(some 4), (.mv (.tmp 28)), none⟩])
   .ret)))
theorem c47 {args : Array Value} {h : Heap} {R : Ending → Heap → Prop} (ha : args.size ≤ 29) (hh : aexec Try.prog ac47 (abody [(.slot 4)] R) ⟨initFr args.toList, []⟩ h) : HCalls Try.prog 47 args h R :=
  hcalls_of Try.func47 rfl rfl (by kernel_rfl) (by kernel_rfl) ha hh
/-- 48: credenza/credenzaref02.Num -/
def ac48 : ACode :=
 (.seq (.ops [
  ⟨(some 2), (.mv (.const (.slice none 0 0))), none⟩])
 (.seq (.seq (.ops [
    ⟨(some 3), (.mv (.tmp 0)), none⟩, 
    ⟨(some 4), (.bin .lss (.tmp 3) (.const (.int .u64 128))), none⟩])
   (.cond (.tmp 4)
    (.seq (.ops [
      ⟨(some 5), (.mv (.tmp 0)), none⟩, 
      ⟨(some 6), (.convInt .u8 (.tmp 5)), none⟩, 
      ⟨(some 7), (.buildSlice 5 1 [(.int .u8 0)] [(0, 1, (.tmp 6))]), none⟩, 
      ⟨(some 2), (.mv (.tmp 7)), none⟩])
     .ret)
    .skip))
  (.seq (.ops [
    ⟨(some 8), (.mv (.tmp 0)), none⟩, 
    ⟨(some 9), (.bin .rem (.tmp 8) (.const (.int .u64 128))), none⟩, 
    ⟨(some 10), (.bin .add (.tmp 9) (.const (.int .u64 128))), none⟩, 
    ⟨(some 11), (.convInt .u8 (.tmp 10)), none⟩, 
    ⟨(some 12), (.buildSlice 5 1 [(.int .u8 0)] [(0, 1, (.tmp 11))]), none⟩, 
    ⟨(some 13), (.mv (.tmp 0)), none⟩, 
    ⟨(some 14), (.bin .quo (.tmp 13) (.const (.int .u64 128))), none⟩, 
    ⟨(some 15), (.callF 48 [(.tmp 14)]), none⟩, 
    ⟨(some 16), (.append 5 1 1 [(.int .u8 0)] (.tmp 12) (.tmp 15)), none⟩, 
    ⟨(some 2), (.mv (.tmp 16)), none⟩])
   .ret)))
theorem c48 {args : Array Value} {h : Heap} {R : Ending → Heap → Prop} (ha : args.size ≤ 17) (hh : aexec Try.prog ac48 (abody [(.slot 2)] R) ⟨initFr args.toList, []⟩ h) : HCalls Try.prog 48 args h R :=
  hcalls_of Try.func48 rfl rfl (by kernel_rfl) (by kernel_rfl) ha hh
/-- 49: credenza/credenzaref02.Text -/
def ac49 : ACode :=
 (.seq (.ops [
  ⟨(some 2), (.mv (.const (.slice none 0 0))), none⟩])
 (.seq (.ops [
   ⟨(some 3), (.mv (.tmp 0)), none⟩, 
   ⟨(some 4), (.lenStr (.tmp 3)), none⟩, 
   ⟨(some 5), (.convInt .u64 (.tmp 4)), none⟩, 
   ⟨(some 6), (.callF 48 [(.tmp 5)]), none⟩, 
   ⟨(some 7), (.mv (.tmp 0)), none⟩, 
   ⟨(some 8), (.append 5 1 1 [(.int .u8 0)] (.tmp 6) (.tmp 7)), none⟩, 
   ⟨(some 2), (.mv (.tmp 8)), none⟩])
  .ret))
theorem c49 {args : Array Value} {h : Heap} {R : Ending → Heap → Prop} (ha : args.size ≤ 9) (hh : aexec Try.prog ac49 (abody [(.slot 2)] R) ⟨initFr args.toList, []⟩ h) : HCalls Try.prog 49 args h R :=
  hcalls_of Try.func49 rfl rfl (by kernel_rfl) (by kernel_rfl) ha hh
/-- 50: cmp.Less[string] -/
def ac50 : ACode :=
 (.seq (.ops [
  ⟨(some 4), (.mv (.const (.bool false))), none⟩])
 (.seq (.ops [
   ⟨(some 5), (.mv (.tmp 0)), none⟩, 
   ⟨(some 6), (.callF 59 [(.tmp 5)]), none⟩, 
   ⟨(some 7), (.mv (.tmp 6)), none⟩, 
   ⟨(some 8), (.mv (.tmp 1)), (some (7, true))⟩, 
   ⟨(some 9), (.callF 59 [(.tmp 8)]), (some (7, true))⟩, 
   ⟨(some 10), (.un .not (.tmp 9)), (some (7, true))⟩, 
   ⟨(some 11), (.pick (.tmp 7) (.tmp 10) (.const (.bool false))), none⟩, 
   ⟨(some 12), (.mv (.tmp 11)), none⟩, 
   ⟨(some 13), (.mv (.tmp 0)), (some (12, false))⟩, 
   ⟨(some 14), (.mv (.tmp 1)), (some (12, false))⟩, 
   ⟨(some 15), (.bin .lss (.tmp 13) (.tmp 14)), (some (12, false))⟩, 
   ⟨(some 16), (.pick (.tmp 12) (.const (.bool true)) (.tmp 15)), none⟩, 
   ⟨(some 4), (.mv (.tmp 16)), none⟩])
  .ret))
theorem c50 {args : Array Value} {h : Heap} {R : Ending → Heap → Prop} (ha : args.size ≤ 17) (hh : aexec Try.prog ac50 (abody [(.slot 4)] R) ⟨initFr args.toList, []⟩ h) : HCalls Try.prog 50 args h R :=
  hcalls_of Try.func50 rfl rfl (by kernel_rfl) (by kernel_rfl) ha hh
/-- 51: credenza/octets.word -/
def ac51 : ACode :=
 (.seq (.ops [
  ⟨(some 2), (.mv (.const (.int .u32 0))), none⟩])
 (.seq (.any [3, 4, 5, 6, 7, 8, 9, 10, 11, 12, 13, 14, 15, 16, 17, 18, 19, 20, 21, 22, 23, 24, 2] [
   ⟨(some 3), (.mv (.tmp 0)), none⟩, 
   ⟨(some 4), (.idxSl 1 (.tmp 3) (.const (.int .i64 0))), none⟩, 
   ⟨(some 5), (.load1 (.tmp 4)), none⟩, 
   ⟨(some 6), (.convInt .u32 (.tmp 5)), none⟩, 
   ⟨(some 7), (.bin .shl (.tmp 6) (.const (.int .u64 24))), none⟩, 
   ⟨(some 8), (.mv (.tmp 0)), none⟩, 
   ⟨(some 9), (.idxSl 1 (.tmp 8) (.const (.int .i64 1))), none⟩, 
   ⟨(some 10), (.load1 (.tmp 9)), none⟩, 
   ⟨(some 11), (.convInt .u32 (.tmp 10)), none⟩, 
   ⟨(some 12), (.bin .shl (.tmp 11) (.const (.int .u64 16))), none⟩, 
   ⟨(some 13), (.bin .or (.tmp 7) (.tmp 12)), none⟩, 
   ⟨(some 14), (.mv (.tmp 0)), none⟩, 
   ⟨(some 15), (.idxSl 1 (.tmp 14) (.const (.int .i64 2))), none⟩, 
   ⟨(some 16), (.load1 (.tmp 15)), none⟩, 
   ⟨(some 17), (.convInt .u32 (.tmp 16)), none⟩, 
   ⟨(some 18), (.bin .shl (.tmp 17) (.const (.int .u64 8))), none⟩, 
   ⟨(some 19), (.bin .or (.tmp 13) (.tmp 18)), none⟩, 
   ⟨(some 20), (.mv (.tmp 0)), none⟩, 
   ⟨(some 21), (.idxSl 1 (.tmp 20) (.const (.int .i64 3))), none⟩, 
   ⟨(some 22), (.load1 (.tmp 21)), none⟩, 
   ⟨(some 23), (.convInt .u32 (.tmp 22)), none⟩, 
   ⟨(some 24), (.bin .or (.tmp 19) (.tmp 23)), none⟩, 
   ⟨(some 2), (.mv (.tmp 24)), none⟩])
  .ret))
theorem c51 {args : Array Value} {h : Heap} {R : Ending → Heap → Prop} (ha : args.size ≤ 25) (hh : aexec Try.prog ac51 (abody [(.slot 2)] R) ⟨initFr args.toList, []⟩ h) : HCalls Try.prog 51 args h R :=
  hcalls_of Try.func51 rfl rfl (by kernel_rfl) (by kernel_rfl) ha hh
/-- 52: slices.IndexFunc[[]byte,byte] -/
def ac52 : ACode :=
 (.seq (.ops [
  ⟨(some 4), (.mv (.const (.int .i64 0))), none⟩])
 (.seq (.seq (.ops [
    ⟨(some 6), (.mv (.tmp 0)), none⟩, 
    ⟨(some 7), (.lenSl (.tmp 6)), none⟩, 
    ⟨(some 8), (.mv (.const (.int .i64 0))), none⟩])
   (.block 0
    (.loop
     (.seq (.ops [
       ⟨(some 9), (.bin .lss (.tmp 8) (.tmp 7)), none⟩])
      (.seq (.cond (.tmp 9)
        .skip
        (.exit 0))
       (.seq (.block 1
         (.seq (.ops [
           ⟨(some 10), (.mv (.tmp 8)), none⟩, 
           ⟨(some 5), (.mv (.tmp 10)), none⟩])
          (.seq (.ops [
            ⟨(some 11), (.mv (.tmp 1)), none⟩, 
            ⟨(some 12), (.mv (.tmp 0)), none⟩, 
            ⟨(some 13), (.mv (.tmp 5)), none⟩, 
            ⟨(some 14), (.idxSl 1 (.tmp 12) (.tmp 13)), none⟩, 
            ⟨(some 15), (.load1 (.tmp 14)), none⟩, 
            ⟨(some 16), (.callV (.tmp 11) [(.tmp 15)]), none⟩])
           (.cond (.tmp 16)
            (.seq (.ops [
              ⟨(some 17), (.mv (.tmp 5)), none⟩, 
              ⟨(some 4), (.mv (.tmp 17)), none⟩])
             .ret)
            .skip))))
        (.ops [
         ⟨(some 18), (.bin .add (.tmp 8) (.const (.int .i64 1))), none⟩, 
         ⟨(some 8), (.mv (.tmp 18)), none⟩])))))))
  (.seq (.ops [
    ⟨(some 4), (.mv (.const (.int .i64 (-1)))), none⟩])
   .ret)))
theorem c52 {args : Array Value} {h : Heap} {R : Ending → Heap → Prop} (ha : args.size ≤ 19) (hh : aexec Try.prog ac52 (abody [(.slot 4)] R) ⟨initFr args.toList, []⟩ h) : HCalls Try.prog 52 args h R :=
  hcalls_of Try.func52 rfl rfl (by kernel_rfl) (by kernel_rfl) ha hh
/-- 53: (*credenza/node.reader).step -/
def ac53 : ACode :=
 (.seq (.seq (.ops [
   ⟨(some 6), (.mv (.tmp 2)), none⟩, 
   ⟨(some 7), (.bin .neq (.tmp 6) (.const (.int .i64 0))), none⟩])
  (.cond (.tmp 7)
   (.ops [
    ⟨(some 8), (.mv (.tmp 2)), none⟩, 
    ⟨(some 9), (.mkIface 29 (.tmp 8)), none⟩, 
    ⟨none, (.panicI (.tmp 9)), none⟩])
   .skip))
 (.ops [
  ⟨(some 10), (.mv (.tmp 0)), none⟩, 
  ⟨(some 11), (.mv (.tmp 0)), none⟩, 
  ⟨(some 12), (.nilCheck (.tmp 11)), none⟩, 
  ⟨(some 13), (.fieldAddr 0 (.tmp 12)), none⟩, 
  ⟨(some 14), (.load1 (.tmp 13)), none⟩, 
  ⟨(some 15), (.mv (.tmp 1)), none⟩, 
  ⟨(some 16), (.sliceSl 1 (.tmp 14) (some (.tmp 15)) none none), none⟩, 
  ⟨(some 17), (.nilCheck (.tmp 10)), none⟩, 
  ⟨(some 18), (.fieldAddr 0 (.tmp 17)), none⟩, 
  ⟨none, (.store1 (.tmp 18) (.tmp 16)), none⟩]))
theorem c53 {args : Array Value} {h : Heap} {R : Ending → Heap → Prop} (ha : args.size ≤ 19) (hh : aexec Try.prog ac53 (abody [] R) ⟨initFr args.toList, []⟩ h) : HCalls Try.prog 53 args h R :=
  hcalls_of Try.func53 rfl rfl (by kernel_rfl) (by kernel_rfl) ha hh
/-- 54: (*credenza/node.reader).num -/
def ac54 : ACode :=
 (.seq (.ops [
  ⟨(some 4), (.mv (.const (.int .i64 0))), none⟩])
 (.seq (.ops [
   ⟨(some 9), (.mv (.tmp 0)), none⟩, 
   ⟨(some 10), (.nilCheck (.tmp 9)), none⟩, 
   ⟨(some 11), (.fieldAddr 0 (.tmp 10)), none⟩, 
   ⟨(some 12), (.load1 (.tmp 11)), none⟩, 
   ⟨(some 13), (.callF 60 [(.tmp 12)]), none⟩, 
   ⟨(some 8), (.mv (.tmp 13)), none⟩, 
   ⟨(some 14), (.extract (.tmp 8) 0), none⟩, 
   ⟨(some 15), (.extract (.tmp 8) 1), none⟩, 
   ⟨(some 16), (.extract (.tmp 8) 2), none⟩, 
   ⟨(some 5), (.mv (.tmp 14)), none⟩, 
   ⟨(some 6), (.mv (.tmp 15)), none⟩, 
   ⟨(some 7), (.mv (.tmp 16)), none⟩])
  (.seq (.seq (.ops [
     ⟨(some 17), (.mv (.tmp 7)), none⟩, 
     ⟨(some 18), (.bin .eql (.tmp 17) (.const (.int .i64 0))), none⟩, 
     ⟨(some 19), (.mv (.tmp 18)), none⟩, 
     ⟨(some 20), (.mv (.tmp 5)), (some (19, true))⟩, 
     ⟨(some 21), (.mv (.tmp 1)), (some (19, true))⟩, 
     ⟨(some 22), (.bin .gtr (.tmp 20) (.tmp 21)), (some (19, true))⟩, 
     ⟨(some 23), (.pick (.tmp 19) (.tmp 22) (.const (.bool false))), none⟩])
    (.cond (.tmp 23)
     (.ops [
      ⟨(some 7), (.mv (.const (.int .i64 22))), none⟩])
     .skip))
   (.seq (.ops [
     ⟨(some 24), (.mv (.tmp 0)), none⟩, 
     ⟨(some 25), (.mv (.tmp 6)), none⟩, 
     ⟨(some 26), (.mv (.tmp 7)), none⟩, 
     ⟨(some 27), (.callF 53 [(.tmp 24), (.tmp 25), (.tmp 26)]), none⟩])
    (.seq (.ops [
      ⟨(some 28), (.mv (.tmp 5)), none⟩, 
      ⟨(some 29), (.convInt .i64 (.tmp 28)), none⟩, 
      ⟨(some 4), (.mv (.tmp 29)), none⟩])
     .ret)))))
theorem c54 {args : Array Value} {h : Heap} {R : Ending → Heap → Prop} (ha : args.size ≤ 30) (hh : aexec Try.prog ac54 (abody [(.slot 4)] R) ⟨initFr args.toList, []⟩ h) : HCalls Try.prog 54 args h R :=
  hcalls_of Try.func54 rfl rfl (by kernel_rfl) (by kernel_rfl) ha hh
/-- 55: (*credenza/node.reader).text -/
def ac55 : ACode :=
 (.seq (.ops [
  ⟨(some 2), (.mv (.const (.string ⟨#[]⟩))), none⟩])
 (.seq (.ops [
   ⟨(some 7), (.mv (.tmp 0)), none⟩, 
   ⟨(some 8), (.nilCheck (.tmp 7)), none⟩, 
   ⟨(some 9), (.fieldAddr 0 (.tmp 8)), none⟩, 
   ⟨(some 10), (.load1 (.tmp 9)), none⟩, 
   ⟨(some 11), (.callF 61 [(.tmp 10), (.const (.int .i64 1024))]), none⟩, 
   ⟨(some 6), (.mv (.tmp 11)), none⟩, 
   ⟨(some 12), (.extract (.tmp 6) 0), none⟩, 
   ⟨(some 13), (.extract (.tmp 6) 1), none⟩, 
   ⟨(some 14), (.extract (.tmp 6) 2), none⟩, 
   ⟨(some 3), (.mv (.tmp 12)), none⟩, 
   ⟨(some 4), (.mv (.tmp 13)), none⟩, 
   ⟨(some 5), (.mv (.tmp 14)), none⟩])
  (.seq (.ops [
    ⟨(some 15), (.mv (.tmp 0)), none⟩, 
    ⟨(some 16), (.mv (.tmp 4)), none⟩, 
    ⟨(some 17), (.mv (.tmp 5)), none⟩, 
    ⟨(some 18), (.callF 53 [(.tmp 15), (.tmp 16), (.tmp 17)]), none⟩])
   (.seq (.ops [
     ⟨(some 19), (.mv (.tmp 3)), none⟩, 
     ⟨(some 2), (.mv (.tmp 19)), none⟩])
    .ret))))
theorem c55 {args : Array Value} {h : Heap} {R : Ending → Heap → Prop} (ha : args.size ≤ 20) (hh : aexec Try.prog ac55 (abody [(.slot 2)] R) ⟨initFr args.toList, []⟩ h) : HCalls Try.prog 55 args h R :=
  hcalls_of Try.func55 rfl rfl (by kernel_rfl) (by kernel_rfl) ha hh
/-- 56: credenza/credenzaref02.word -/
def ac56 : ACode :=
 (.seq (.ops [
  ⟨(some 2), (.mv (.const (.int .u32 0))), none⟩])
 (.seq (.any [3, 4, 5, 6, 7, 8, 9, 10, 11, 12, 13, 14, 15, 16, 17, 18, 19, 20, 21, 22, 23, 24, 2] [
   ⟨(some 3), (.mv (.tmp 0)), none⟩, 
   ⟨(some 4), (.idxSl 1 (.tmp 3) (.const (.int .i64 0))), none⟩, 
   ⟨(some 5), (.load1 (.tmp 4)), none⟩, 
   ⟨(some 6), (.convInt .u32 (.tmp 5)), none⟩, 
   ⟨(some 7), (.bin .shl (.tmp 6) (.const (.int .u64 24))), none⟩, 
   ⟨(some 8), (.mv (.tmp 0)), none⟩, 
   ⟨(some 9), (.idxSl 1 (.tmp 8) (.const (.int .i64 1))), none⟩, 
   ⟨(some 10), (.load1 (.tmp 9)), none⟩, 
   ⟨(some 11), (.convInt .u32 (.tmp 10)), none⟩, 
   ⟨(some 12), (.bin .shl (.tmp 11) (.const (.int .u64 16))), none⟩, 
   ⟨(some 13), (.bin .or (.tmp 7) (.tmp 12)), none⟩, 
   ⟨(some 14), (.mv (.tmp 0)), none⟩, 
   ⟨(some 15), (.idxSl 1 (.tmp 14) (.const (.int .i64 2))), none⟩, 
   ⟨(some 16), (.load1 (.tmp 15)), none⟩, 
   ⟨(some 17), (.convInt .u32 (.tmp 16)), none⟩, 
   ⟨(some 18), (.bin .shl (.tmp 17) (.const (.int .u64 8))), none⟩, 
   ⟨(some 19), (.bin .or (.tmp 13) (.tmp 18)), none⟩, 
   ⟨(some 20), (.mv (.tmp 0)), none⟩, 
   ⟨(some 21), (.idxSl 1 (.tmp 20) (.const (.int .i64 3))), none⟩, 
   ⟨(some 22), (.load1 (.tmp 21)), none⟩, 
   ⟨(some 23), (.convInt .u32 (.tmp 22)), none⟩, 
   ⟨(some 24), (.bin .or (.tmp 19) (.tmp 23)), none⟩, 
   ⟨(some 2), (.mv (.tmp 24)), none⟩])
  .ret))
theorem c56 {args : Array Value} {h : Heap} {R : Ending → Heap → Prop} (ha : args.size ≤ 25) (hh : aexec Try.prog ac56 (abody [(.slot 2)] R) ⟨initFr args.toList, []⟩ h) : HCalls Try.prog 56 args h R :=
  hcalls_of Try.func56 rfl rfl (by kernel_rfl) (by kernel_rfl) ha hh
/-- 57: (*credenza/credenzaref17.reader).num -/
def ac57 : ACode :=
 (.seq (.ops [
  ⟨(some 4), (.mv (.const (.int .i64 0))), none⟩])
 (.seq (.ops [
   ⟨(some 9), (.mv (.tmp 0)), none⟩, 
   ⟨(some 10), (.nilCheck (.tmp 9)), none⟩, 
   ⟨(some 11), (.fieldAddr 0 (.tmp 10)), none⟩, 
   ⟨(some 12), (.load1 (.tmp 11)), none⟩, 
   ⟨(some 13), (.callF 62 [(.tmp 12)]), none⟩, 
   ⟨(some 8), (.mv (.tmp 13)), none⟩, 
   ⟨(some 14), (.extract (.tmp 8) 0), none⟩, 
   ⟨(some 15), (.extract (.tmp 8) 1), none⟩, 
   ⟨(some 16), (.extract (.tmp 8) 2), none⟩, 
   ⟨(some 5), (.mv (.tmp 14)), none⟩, 
   ⟨(some 6), (.mv (.tmp 15)), none⟩, 
   ⟨(some 7), (.mv (.tmp 16)), none⟩])
  (.seq (.seq (.ops [
     ⟨(some 17), (.mv (.tmp 7)), none⟩, 
     ⟨(some 18), (.bin .eql (.tmp 17) (.const (.int .i64 0))), none⟩, 
     ⟨(some 19), (.mv (.tmp 18)), none⟩, 
     ⟨(some 20), (.mv (.tmp 5)), (some (19, true))⟩, 
     ⟨(some 21), (.mv (.tmp 1)), (some (19, true))⟩, 
     ⟨(some 22), (.bin .gtr (.tmp 20) (.tmp 21)), (some (19, true))⟩, 
     ⟨(some 23), (.pick (.tmp 19) (.tmp 22) (.const (.bool false))), none⟩])
    (.cond (.tmp 23)
     (.ops [
      ⟨(some 7), (.mv (.const (.int .i64 22))), none⟩])
     .skip))
   (.seq (.seq (.ops [
      ⟨(some 24), (.mv (.tmp 0)), none⟩, 
      ⟨(some 25), (.nilCheck (.tmp 24)), none⟩, 
      ⟨(some 26), (.fieldAddr 1 (.tmp 25)), none⟩, 
      ⟨(some 27), (.load1 (.tmp 26)), none⟩, 
      ⟨(some 28), (.bin .neq (.tmp 27) (.const (.int .i64 0))), none⟩, 
      ⟨(some 29), (.mv (.tmp 28)), none⟩, 
      ⟨(some 30), (.mv (.tmp 7)), (some (29, false))⟩, 
      ⟨(some 31), (.bin .neq (.tmp 30) (.const (.int .i64 0))), (some (29, false))⟩, 
      ⟨(some 32), (.pick (.tmp 29) (.const (.bool true)) (.tmp 31)), none⟩])
     (.cond (.tmp 32)
      (.seq (.ops [
        ⟨(some 33), (.mv (.tmp 0)), none⟩, 
        ⟨(some 34), (.mv (.tmp 7)), none⟩, 
        ⟨(some 35), (.callF 43 [(.tmp 33), (.tmp 34)]), none⟩])
       (.seq (.ops [
         ⟨(some 4), (.mv (.const (.int .i64 0))), none⟩])
        .ret))
      .skip))
    (.seq (.ops [
      ⟨(some 36), (.mv (.tmp 0)), none⟩, 
      ⟨(some 37), (.mv (.tmp 0)), none⟩, 
      ⟨(some 38), (.nilCheck (.tmp 37)), none⟩, 
      ⟨(some 39), (.fieldAddr 0 (.tmp 38)), none⟩, 
      ⟨(some 40), (.load1 (.tmp 39)), none⟩, 
      ⟨(some 41), (.mv (.tmp 6)), none⟩, 
      ⟨(some 42), (.sliceSl 1 (.tmp 40) (some (.tmp 41)) none none), none⟩, 
      ⟨(some 43), (.nilCheck (.tmp 36)), none⟩, 
      ⟨(some 44), (.fieldAddr 0 (.tmp 43)), none⟩, 
      ⟨none, (.store1 (.tmp 44) (.tmp 42)), none⟩])
     (.seq (.ops [
       ⟨(some 45), (.mv (.tmp 5)), none⟩, 
       ⟨(some 46), (.convInt .i64 (.tmp 45)), none⟩, 
       ⟨(some 4), (.mv (.tmp 46)), none⟩])
      .ret))))))
theorem c57 {args : Array Value} {h : Heap} {R : Ending → Heap → Prop} (ha : args.size ≤ 47) (hh : aexec Try.prog ac57 (abody [(.slot 4)] R) ⟨initFr args.toList, []⟩ h) : HCalls Try.prog 57 args h R :=
  hcalls_of Try.func57 rfl rfl (by kernel_rfl) (by kernel_rfl) ha hh
/-- 58: (*credenza/credenzaref17.reader).text -/
def ac58 : ACode :=
 (.seq (.ops [
  ⟨(some 2), (.mv (.const (.string ⟨#[]⟩))), none⟩])
 (.seq (.ops [
   ⟨(some 7), (.mv (.tmp 0)), none⟩, 
   ⟨(some 8), (.nilCheck (.tmp 7)), none⟩, 
   ⟨(some 9), (.fieldAddr 0 (.tmp 8)), none⟩, 
   ⟨(some 10), (.load1 (.tmp 9)), none⟩, 
   ⟨(some 11), (.callF 63 [(.tmp 10), (.const (.int .i64 1024))]), none⟩, 
   ⟨(some 6), (.mv (.tmp 11)), none⟩, 
   ⟨(some 12), (.extract (.tmp 6) 0), none⟩, 
   ⟨(some 13), (.extract (.tmp 6) 1), none⟩, 
   ⟨(some 14), (.extract (.tmp 6) 2), none⟩, 
   ⟨(some 3), (.mv (.tmp 12)), none⟩, 
   ⟨(some 4), (.mv (.tmp 13)), none⟩, 
   ⟨(some 5), (.mv (.tmp 14)), none⟩])
  (.seq (.seq (.ops [
     ⟨(some 15), (.mv (.tmp 0)), none⟩, 
     ⟨(some 16), (.nilCheck (.tmp 15)), none⟩, 
     ⟨(some 17), (.fieldAddr 1 (.tmp 16)), none⟩, 
     ⟨(some 18), (.load1 (.tmp 17)), none⟩, 
     ⟨(some 19), (.bin .neq (.tmp 18) (.const (.int .i64 0))), none⟩, 
     ⟨(some 20), (.mv (.tmp 19)), none⟩, 
     ⟨(some 21), (.mv (.tmp 5)), (some (20, false))⟩, 
     ⟨(some 22), (.bin .neq (.tmp 21) (.const (.int .i64 0))), (some (20, false))⟩, 
     ⟨(some 23), (.pick (.tmp 20) (.const (.bool true)) (.tmp 22)), none⟩])
    (.cond (.tmp 23)
     (.seq (.ops [
       ⟨(some 24), (.mv (.tmp 0)), none⟩, 
       ⟨(some 25), (.mv (.tmp 5)), none⟩, 
       ⟨(some 26), (.callF 43 [(.tmp 24), (.tmp 25)]), none⟩])
      (.seq (.ops [
        ⟨(some 2), (.mv (.const (.string ⟨#[]⟩))), none⟩])
       .ret))
     .skip))
   (.seq (.ops [
     ⟨(some 27), (.mv (.tmp 0)), none⟩, 
     ⟨(some 28), (.mv (.tmp 0)), none⟩, 
     ⟨(some 29), (.nilCheck (.tmp 28)), none⟩, 
     ⟨(some 30), (.fieldAddr 0 (.tmp 29)), none⟩, 
     ⟨(some 31), (.load1 (.tmp 30)), none⟩, 
     ⟨(some 32), (.mv (.tmp 4)), none⟩, 
     ⟨(some 33), (.sliceSl 1 (.tmp 31) (some (.tmp 32)) none none), none⟩, 
     ⟨(some 34), (.nilCheck (.tmp 27)), none⟩, 
     ⟨(some 35), (.fieldAddr 0 (.tmp 34)), none⟩, 
     ⟨none, (.store1 (.tmp 35) (.tmp 33)), none⟩])
    (.seq (.ops [
      ⟨(some 36), (.mv (.tmp 3)), none⟩, 
      ⟨(some 2), (.mv (.tmp 36)), none⟩])
     .ret)))))
theorem c58 {args : Array Value} {h : Heap} {R : Ending → Heap → Prop} (ha : args.size ≤ 37) (hh : aexec Try.prog ac58 (abody [(.slot 2)] R) ⟨initFr args.toList, []⟩ h) : HCalls Try.prog 58 args h R :=
  hcalls_of Try.func58 rfl rfl (by kernel_rfl) (by kernel_rfl) ha hh
/-- 59: cmp.isNaN[string] -/
def ac59 : ACode :=
 (.seq (.ops [
  ⟨(some 2), (.mv (.const (.bool false))), none⟩])
 (.seq (.ops [
   ⟨(some 3), (.mv (.tmp 0)), none⟩, 
   ⟨(some 4), (.mv (.tmp 0)), none⟩, 
   ⟨(some 5), (.bin .neq (.tmp 3) (.tmp 4)), none⟩, 
   ⟨(some 2), (.mv (.tmp 5)), none⟩])
  .ret))
theorem c59 {args : Array Value} {h : Heap} {R : Ending → Heap → Prop} (ha : args.size ≤ 6) (hh : aexec Try.prog ac59 (abody [(.slot 2)] R) ⟨initFr args.toList, []⟩ h) : HCalls Try.prog 59 args h R :=
  hcalls_of Try.func59 rfl rfl (by kernel_rfl) (by kernel_rfl) ha hh
/-- 60: credenza/octets.ReadNum -/
def ac60 : ACode :=
 (.seq (.ops [
  ⟨(some 2), (.mv (.const (.int .u64 0))), none⟩, 
  ⟨(some 3), (.mv (.const (.int .i64 0))), none⟩, 
  ⟨(some 4), (.mv (.const (.int .i64 0))), none⟩])
 (.seq (.ops [
   ⟨(some 5), (.mv (.const (.int .u64 0))), none⟩, 
   ⟨(some 6), (.mv (.const (.int .u64 0))), none⟩])
  (.seq (.seq (.ops [
     ⟨(some 9), (.mv (.tmp 0)), none⟩, 
     ⟨(some 10), (.lenSl (.tmp 9)), none⟩, 
     ⟨(some 11), (.mv (.const (.int .i64 0))), none⟩])
    (.block 0
     (.loop
      (.seq (.ops [
        ⟨(some 12), (.bin .lss (.tmp 11) (.tmp 10)), none⟩])
       (.seq (.cond (.tmp 12)
         .skip
         (.exit 0))
        (.seq (.block 1
          (.seq (.ops [
            ⟨(some 13), (.mv (.tmp 11)), none⟩, 
            ⟨(some 14), (.idxSl 1 (.tmp 9) (.tmp 11)), none⟩, 
            ⟨(some 15), (.load1 (.tmp 14)), none⟩, 
            ⟨(some 7), (.mv (.tmp 13)), none⟩, 
            ⟨(some 8), (.mv (.tmp 15)), none⟩])
           (.seq (.block 2
             (.seq (.seq (.ops [
                ⟨(some 17), (.mv (.tmp 7)), none⟩, 
                ⟨(some 18), (.bin .eql (.tmp 17) (.const (.int .i64 9))), none⟩, 
                ⟨(some 19), (.mv (.tmp 18)), none⟩, 
                ⟨(some 20), (.mv (.tmp 8)), (some (19, true))⟩, 
                ⟨(some 21), (.bin .gtr (.tmp 20) (.const (.int .u8 1))), (some (19, true))⟩, 
                ⟨(some 22), (.pick (.tmp 19) (.tmp 21) (.const (.bool false))), none⟩, 
                ⟨(some 16), (.mv (.tmp 22)), none⟩])
               (.cond (.tmp 16)
                .skip
                (.ops [
                 ⟨(some 23), (.mv (.tmp 7)), none⟩, 
                 ⟨(some 24), (.bin .gtr (.tmp 23) (.const (.int .i64 0))), none⟩, 
                 ⟨(some 25), (.mv (.tmp 24)), none⟩, 
                 ⟨(some 26), (.mv (.tmp 8)), (some (25, true))⟩, 
                 ⟨(some 27), (.bin .eql (.tmp 26) (.const (.int .u8 0))), (some (25, true))⟩, 
                 ⟨(some 28), (.pick (.tmp 25) (.tmp 27) (.const (.bool false))), none⟩, 
                 ⟨(some 16), (.mv (.tmp 28)), none⟩])))
              (.cond (.tmp 16)
               (.seq (.ops [
                 ⟨(some 2), (.mv (.const (.int .u64 0))), none⟩, 
                 ⟨(some 3), (.mv (.const (.int .i64 0))), none⟩, 
                 ⟨(some 4), (.mv (.const (.int .i64 22))), none⟩])
                .ret)
               .skip)))
            (.seq (.ops [
              ⟨(some 29), (.mv (.tmp 5)), none⟩, 
              ⟨(some 30), (.mv (.tmp 8)), none⟩, 
              ⟨(some 31), (.bin .and (.tmp 30) (.const (.int .u8 127))), none⟩, 
              ⟨(some 32), (.convInt .u64 (.tmp 31)), none⟩, 
              ⟨(some 33), (.mv (.tmp 6)), none⟩, 
              ⟨(some 34), (.bin .shl (.tmp 32) (.tmp 33)), none⟩, 
              ⟨(some 35), (.bin .or (.tmp 29) (.tmp 34)), none⟩, 
              ⟨(some 5), (.mv (.tmp 35)), none⟩])
             (.seq (.ops [
               ⟨(some 36), (.mv (.tmp 6)), none⟩, 
               ⟨(some 37), (.bin .add (.tmp 36) (.const (.int .u64 7))), none⟩, 
               ⟨(some 6), (.mv (.tmp 37)), none⟩])
              (.seq (.ops [
                ⟨(some 38), (.mv (.tmp 8)), none⟩, 
                ⟨(some 39), (.bin .lss (.tmp 38) (.const (.int .u8 128))), none⟩])
               (.cond (.tmp 39)
                (.seq (.ops [
                  ⟨(some 40), (.mv (.tmp 5)), none⟩, 
                  ⟨(some 41), (.mv (.tmp 7)), none⟩, 
                  ⟨(some 42), (.bin .add (.tmp 41) (.const (.int .i64 1))), none⟩, 
                  ⟨(some 2), (.mv (.tmp 40)), none⟩, 
                  ⟨(some 3), (.mv (.tmp 42)), none⟩, 
                  ⟨(some 4), (.mv (.const (.int .i64 0))), none⟩])
                 .ret)
                .skip)))))))
         (.ops [
          ⟨(some 43), (.bin .add (.tmp 11) (.const (.int .i64 1))), none⟩, 
          ⟨(some 11), (.mv (.tmp 43)), none⟩])))))))
   (.seq (.ops [
     ⟨(some 2), (.mv (.const (.int .u64 0))), none⟩, 
     ⟨(some 3), (.mv (.const (.int .i64 0))), none⟩, 
     ⟨(some 4), (.mv (.const (.int .i64 20))), none⟩])
    .ret))))
theorem c60 {args : Array Value} {h : Heap} {R : Ending → Heap → Prop} (ha : args.size ≤ 44) (hh : aexec Try.prog ac60 (abody [(.slot 2), (.slot 3), (.slot 4)] R) ⟨initFr args.toList, []⟩ h) : HCalls Try.prog 60 args h R :=
  hcalls_of Try.func60 rfl rfl (by kernel_rfl) (by kernel_rfl) ha hh
/-- 61: credenza/octets.ReadText -/
def ac61 : ACode :=
 (.seq (.ops [
  ⟨(some 4), (.mv (.const (.string ⟨#[]⟩))), none⟩, 
  ⟨(some 5), (.mv (.const (.int .i64 0))), none⟩, 
  ⟨(some 6), (.mv (.const (.int .i64 0))), none⟩])
 (.seq (.ops [
   ⟨(some 12), (.mv (.tmp 0)), none⟩, 
   ⟨(some 13), (.callF 60 [(.tmp 12)]), none⟩, 
   ⟨(some 11), (.mv (.tmp 13)), none⟩, 
   ⟨(some 14), (.extract (.tmp 11) 0), none⟩, 
   ⟨(some 15), (.extract (.tmp 11) 1), none⟩, 
   ⟨(some 16), (.extract (.tmp 11) 2), none⟩, 
   ⟨(some 7), (.mv (.tmp 14)), none⟩, 
   ⟨(some 8), (.mv (.tmp 15)), none⟩, 
   ⟨(some 9), (.mv (.tmp 16)), none⟩])
  (.seq (.block 0
    (.seq (.ops [
      ⟨(some 18), (.mv (.tmp 9)), none⟩, 
      ⟨(some 19), (.bin .neq (.tmp 18) (.const (.int .i64 0))), none⟩, 
      ⟨(some 17), (.mv (.tmp 19)), none⟩])
     (.cond (.tmp 17)
      (.seq (.ops [
        ⟨(some 20), (.mv (.tmp 9)), none⟩, 
        ⟨(some 4), (.mv (.const (.string ⟨#[]⟩))), none⟩, 
        ⟨(some 5), (.mv (.const (.int .i64 0))), none⟩, 
        ⟨(some 6), (.mv (.tmp 20)), none⟩])
       .ret)
      (.seq (.ops [
        ⟨(some 22), (.mv (.tmp 1)), none⟩, 
        ⟨(some 23), (.bin .lss (.tmp 22) (.const (.int .i64 0))), none⟩, 
        ⟨(some 24), (.mv (.tmp 23)), none⟩, 
        ⟨(some 25), (.mv (.tmp 7)), (some (24, false))⟩, 
        ⟨(some 26), (.mv (.tmp 1)), (some (24, false))⟩, 
        ⟨(some 27), (.convInt .u64 (.tmp 26)), (some (24, false))⟩, 
        ⟨(some 28), (.bin .gtr (.tmp 25) (.tmp 27)), (some (24, false))⟩, 
        ⟨(some 29), (.pick (.tmp 24) (.const (.bool true)) (.tmp 28)), none⟩, 
        ⟨(some 21), (.mv (.tmp 29)), none⟩])
       (.cond (.tmp 21)
        (.seq (.ops [
          ⟨(some 4), (.mv (.const (.string ⟨#[]⟩))), none⟩, 
          ⟨(some 5), (.mv (.const (.int .i64 0))), none⟩, 
          ⟨(some 6), (.mv (.const (.int .i64 22))), none⟩])
         .ret)
        (.seq (.ops [
          ⟨(some 31), (.mv (.tmp 0)), none⟩, 
          ⟨(some 32), (.lenSl (.tmp 31)), none⟩, 
          ⟨(some 33), (.mv (.tmp 8)), none⟩, 
          ⟨(some 34), (.bin .sub (.tmp 32) (.tmp 33)), none⟩, 
          ⟨(some 35), (.convInt .u64 (.tmp 34)), none⟩, 
          ⟨(some 36), (.mv (.tmp 7)), none⟩, 
          ⟨(some 37), (.bin .lss (.tmp 35) (.tmp 36)), none⟩, 
          ⟨(some 30), (.mv (.tmp 37)), none⟩])
         (.cond (.tmp 30)
          (.seq (.ops [
            ⟨(some 4), (.mv (.const (.string ⟨#[]⟩))), none⟩, 
            ⟨(some 5), (.mv (.const (.int .i64 0))), none⟩, 
            ⟨(some 6), (.mv (.const (.int .i64 20))), none⟩])
           .ret)
          .skip)))))))
   (.seq (.ops [
     ⟨(some 38), (.mv (.tmp 8)), none⟩, 
     ⟨(some 39), (.mv (.tmp 7)), none⟩, 
     ⟨(some 40), (.convInt .i64 (.tmp 39)), none⟩, 
     ⟨(some 41), (.bin .add (.tmp 38) (.tmp 40)), none⟩, 
     ⟨(some 10), (.mv (.tmp 41)), none⟩])
    (.seq (.ops [
      ⟨(some 42), (.mv (.tmp 0)), none⟩, 
      ⟨(some 43), (.mv (.tmp 8)), none⟩, 
      ⟨(some 44), (.mv (.tmp 10)), none⟩, 
      ⟨(some 45), (.sliceSl 1 (.tmp 42) (some (.tmp 43)) (some (.tmp 44)) none), none⟩, 
      ⟨(some 46), (.strOfBytes (.tmp 45)), none⟩, 
      ⟨(some 47), (.mv (.tmp 10)), none⟩, 
      ⟨(some 4), (.mv (.tmp 46)), none⟩, 
      ⟨(some 5), (.mv (.tmp 47)), none⟩, 
      ⟨(some 6), (.mv (.const (.int .i64 0))), none⟩])
     .ret)))))
theorem c61 {args : Array Value} {h : Heap} {R : Ending → Heap → Prop} (ha : args.size ≤ 48) (hh : aexec Try.prog ac61 (abody [(.slot 4), (.slot 5), (.slot 6)] R) ⟨initFr args.toList, []⟩ h) : HCalls Try.prog 61 args h R :=
  hcalls_of Try.func61 rfl rfl (by kernel_rfl) (by kernel_rfl) ha hh
/-- 62: credenza/credenzaref02.ReadNum -/
def ac62 : ACode :=
 (.seq (.ops [
  ⟨(some 2), (.mv (.const (.int .u64 0))), none⟩, 
  ⟨(some 3), (.mv (.const (.int .i64 0))), none⟩, 
  ⟨(some 4), (.mv (.const (.int .i64 0))), none⟩])
 (.seq (.ops [
   ⟨(some 5), (.mv (.const (.int .u64 0))), none⟩])
  (.seq (.seq (.ops [
     ⟨(some 6), (.mv (.const (.int .i64 0))), none⟩])
    (.block 0
     (.loop
      (.seq (.seq (.ops [
         ⟨(some 7), (.mv (.tmp 6)), none⟩, 
         ⟨(some 8), (.bin .lss (.tmp 7) (.const (.int .i64 10))), none⟩])
        (.cond (.tmp 8)
         .skip
         (.exit 0)))
       (.seq (.block 1
         (.seq (.seq (.ops [
            ⟨(some 11), (.mv (.tmp 6)), none⟩, 
            ⟨(some 12), (.mv (.tmp 0)), none⟩, 
            ⟨(some 13), (.lenSl (.tmp 12)), none⟩, 
            ⟨(some 14), (.bin .geq (.tmp 11) (.tmp 13)), none⟩])
           (.cond (.tmp 14)
            (.seq (.ops [
              ⟨(some 2), (.mv (.const (.int .u64 0))), none⟩, 
              ⟨(some 3), (.mv (.const (.int .i64 0))), none⟩, 
              ⟨(some 4), (.mv (.const (.int .i64 20))), none⟩])
             .ret)
            .skip))
          (.seq (.seq (.ops [
             ⟨(some 15), (.mv (.tmp 6)), none⟩, 
             ⟨(some 16), (.bin .eql (.tmp 15) (.const (.int .i64 9))), none⟩, 
             ⟨(some 17), (.mv (.tmp 16)), none⟩, 
             ⟨(some 18), (.mv (.tmp 0)), (some (17, true))⟩, 
             ⟨(some 19), (.mv (.tmp 6)), (some (17, true))⟩, 
             ⟨(some 20), (.idxSl 1 (.tmp 18) (.tmp 19)), (some (17, true))⟩, 
             ⟨(some 21), (.load1 (.tmp 20)), (some (17, true))⟩, 
             ⟨(some 22), (.bin .gtr (.tmp 21) (.const (.int .u8 1))), (some (17, true))⟩, 
             ⟨(some 23), (.pick (.tmp 17) (.tmp 22) (.const (.bool false))), none⟩])
            (.cond (.tmp 23)
             (.seq (.ops [
               ⟨(some 2), (.mv (.const (.int .u64 0))), none⟩, 
               ⟨(some 3), (.mv (.const (.int .i64 0))), none⟩, 
               ⟨(some 4), (.mv (.const (.int .i64 22))), none⟩])
              .ret)
             .skip))
           (.seq (.ops [
             ⟨(some 24), (.mv (.tmp 5)), none⟩, 
             ⟨(some 25), (.mv (.tmp 0)), none⟩, 
             ⟨(some 26), (.mv (.tmp 6)), none⟩, 
             ⟨(some 27), (.idxSl 1 (.tmp 25) (.tmp 26)), none⟩, 
             ⟨(some 28), (.load1 (.tmp 27)), none⟩, 
             ⟨(some 29), (.bin .rem (.tmp 28) (.const (.int .u8 128))), none⟩, 
             ⟨(some 30), (.convInt .u64 (.tmp 29)), none⟩, 
             ⟨(some 31), (.mv (.tmp 6)), none⟩, 
             ⟨(some 32), (.bin .mul (.const (.int .i64 7)) (.tmp 31)), none⟩, 
             ⟨(some 33), (.bin .shl (.tmp 30) (.tmp 32)), none⟩, 
             ⟨(some 34), (.bin .or (.tmp 24) (.tmp 33)), none⟩, 
             ⟨(some 5), (.mv (.tmp 34)), none⟩])
            (.seq (.ops [
              ⟨(some 35), (.mv (.tmp 0)), none⟩, 
              ⟨(some 36), (.mv (.tmp 6)), none⟩, 
              ⟨(some 37), (.idxSl 1 (.tmp 35) (.tmp 36)), none⟩, 
              ⟨(some 38), (.load1 (.tmp 37)), none⟩, 
              ⟨(some 39), (.bin .lss (.tmp 38) (.const (.int .u8 128))), none⟩])
             (.cond (.tmp 39)
              (.seq (.seq (.ops [
                 ⟨(some 40), (.mv (.tmp 0)), none⟩, 
                 ⟨(some 41), (.mv (.tmp 6)), none⟩, 
                 ⟨(some 42), (.idxSl 1 (.tmp 40) (.tmp 41)), none⟩, 
                 ⟨(some 43), (.load1 (.tmp 42)), none⟩, 
                 ⟨(some 44), (.bin .eql (.tmp 43) (.const (.int .u8 0))), none⟩, 
                 ⟨(some 45), (.mv (.tmp 44)), none⟩, 
                 ⟨(some 46), (.mv (.tmp 6)), (some (45, true))⟩, 
                 ⟨(some 47), (.bin .gtr (.tmp 46) (.const (.int .i64 0))), (some (45, true))⟩, 
                 ⟨(some 48), (.pick (.tmp 45) (.tmp 47) (.const (.bool false))), none⟩])
                (.cond (.tmp 48)
                 (.seq (.ops [
                   ⟨(some 2), (.mv (.const (.int .u64 0))), none⟩, 
                   ⟨(some 3), (.mv (.const (.int .i64 0))), none⟩, 
                   ⟨(some 4), (.mv (.const (.int .i64 22))), none⟩])
                  .ret)
                 .skip))
               (.seq (.ops [
                 ⟨(some 49), (.mv (.tmp 5)), none⟩, 
                 ⟨(some 50), (.mv (.tmp 6)), none⟩, 
                 ⟨(some 51), (.bin .add (.tmp 50) (.const (.int .i64 1))), none⟩, 
                 ⟨(some 2), (.mv (.tmp 49)), none⟩, 
                 ⟨(some 3), (.mv (.tmp 51)), none⟩, 
                 ⟨(some 4), (.mv (.const (.int .i64 0))), none⟩])
                .ret))
              .skip))))))
        (.ops [
         ⟨(some 9), (.mv (.tmp 6)), none⟩, 
         ⟨(some 10), (.bin .add (.tmp 9) (.const (.int .i64 1))), none⟩, 
         ⟨(some 6), (.mv (.tmp 10)), none⟩]))))))
   (.seq (.ops [
     ⟨(some 2), (.mv (.const (.int .u64 0))), none⟩, 
     ⟨(some 3), (.mv (.const (.int .i64 0))), none⟩, 
     ⟨(some 4), (.mv (.const (.int .i64 22))), none⟩])
    .ret))))
theorem c62 {args : Array Value} {h : Heap} {R : Ending → Heap → Prop} (ha : args.size ≤ 52) (hh : aexec Try.prog ac62 (abody [(.slot 2), (.slot 3), (.slot 4)] R) ⟨initFr args.toList, []⟩ h) : HCalls Try.prog 62 args h R :=
  hcalls_of Try.func62 rfl rfl (by kernel_rfl) (by kernel_rfl) ha hh
/-- 63: credenza/credenzaref02.ReadText -/
def ac63 : ACode :=
 (.seq (.ops [
  ⟨(some 4), (.mv (.const (.string ⟨#[]⟩))), none⟩, 
  ⟨(some 5), (.mv (.const (.int .i64 0))), none⟩, 
  ⟨(some 6), (.mv (.const (.int .i64 0))), none⟩])
 (.seq (.ops [
   ⟨(some 11), (.mv (.tmp 0)), none⟩, 
   ⟨(some 12), (.callF 62 [(.tmp 11)]), none⟩, 
   ⟨(some 10), (.mv (.tmp 12)), none⟩, 
   ⟨(some 13), (.extract (.tmp 10) 0), none⟩, 
   ⟨(some 14), (.extract (.tmp 10) 1), none⟩, 
   ⟨(some 15), (.extract (.tmp 10) 2), none⟩, 
   ⟨(some 7), (.mv (.tmp 13)), none⟩, 
   ⟨(some 8), (.mv (.tmp 14)), none⟩, 
   ⟨(some 9), (.mv (.tmp 15)), none⟩])
  (.seq (.seq (.ops [
     ⟨(some 16), (.mv (.tmp 9)), none⟩, 
     ⟨(some 17), (.bin .neq (.tmp 16) (.const (.int .i64 0))), none⟩])
    (.cond (.tmp 17)
     (.seq (.ops [
       ⟨(some 18), (.mv (.tmp 9)), none⟩, 
       ⟨(some 4), (.mv (.const (.string ⟨#[]⟩))), none⟩, 
       ⟨(some 5), (.mv (.const (.int .i64 0))), none⟩, 
       ⟨(some 6), (.mv (.tmp 18)), none⟩])
      .ret)
     .skip))
   (.seq (.seq (.ops [
      ⟨(some 19), (.mv (.tmp 1)), none⟩, 
      ⟨(some 20), (.bin .lss (.tmp 19) (.const (.int .i64 0))), none⟩, 
      ⟨(some 21), (.mv (.tmp 20)), none⟩, 
      ⟨(some 22), (.mv (.tmp 7)), (some (21, false))⟩, 
      ⟨(some 23), (.mv (.tmp 1)), (some (21, false))⟩, 
      ⟨(some 24), (.convInt .u64 (.tmp 23)), (some (21, false))⟩, 
      ⟨(some 25), (.bin .gtr (.tmp 22) (.tmp 24)), (some (21, false))⟩, 
      ⟨(some 26), (.pick (.tmp 21) (.const (.bool true)) (.tmp 25)), none⟩])
     (.cond (.tmp 26)
      (.seq (.ops [
        ⟨(some 4), (.mv (.const (.string ⟨#[]⟩))), none⟩, 
        ⟨(some 5), (.mv (.const (.int .i64 0))), none⟩, 
        ⟨(some 6), (.mv (.const (.int .i64 22))), none⟩])
       .ret)
      .skip))
    (.seq (.seq (.ops [
       ⟨(some 27), (.mv (.tmp 7)), none⟩, 
       ⟨(some 28), (.mv (.tmp 0)), none⟩, 
       ⟨(some 29), (.lenSl (.tmp 28)), none⟩, 
       ⟨(some 30), (.mv (.tmp 8)), none⟩, 
       ⟨(some 31), (.bin .sub (.tmp 29) (.tmp 30)), none⟩, 
       ⟨(some 32), (.convInt .u64 (.tmp 31)), none⟩, 
       ⟨(some 33), (.bin .gtr (.tmp 27) (.tmp 32)), none⟩])
      (.cond (.tmp 33)
       (.seq (.ops [
         ⟨(some 4), (.mv (.const (.string ⟨#[]⟩))), none⟩, 
         ⟨(some 5), (.mv (.const (.int .i64 0))), none⟩, 
         ⟨(some 6), (.mv (.const (.int .i64 20))), none⟩])
        .ret)
       .skip))
     (.seq (.ops [
       ⟨(some 34), (.mv (.tmp 0)), none⟩, 
       ⟨(some 35), (.mv (.tmp 8)), none⟩, 
       ⟨(some 36), (.mv (.tmp 8)), none⟩, 
       ⟨(some 37), (.mv (.tmp 7)), none⟩, 
       ⟨(some 38), (.convInt .i64 (.tmp 37)), none⟩, 
       ⟨(some 39), (.bin .add (.tmp 36) (.tmp 38)), none⟩, 
       ⟨(some 40), (.sliceSl 1 (.tmp 34) (some (.tmp 35)) (some (.tmp 39)) none), none⟩, 
       ⟨(some 41), (.strOfBytes (.tmp 40)), none⟩, 
       ⟨(some 42), (.mv (.tmp 8)), none⟩, 
       ⟨(some 43), (.mv (.tmp 7)), none⟩, 
       ⟨(some 44), (.convInt .i64 (.tmp 43)), none⟩, 
       ⟨(some 45), (.bin .add (.tmp 42) (.tmp 44)), none⟩, 
       ⟨(some 4), (.mv (.tmp 41)), none⟩, 
       ⟨(some 5), (.mv (.tmp 45)), none⟩, 
       ⟨(some 6), (.mv (.const (.int .i64 0))), none⟩])
      .ret))))))
theorem c63 {args : Array Value} {h : Heap} {R : Ending → Heap → Prop} (ha : args.size ≤ 46) (hh : aexec Try.prog ac63 (abody [(.slot 4), (.slot 5), (.slot 6)] R) ⟨initFr args.toList, []⟩ h) : HCalls Try.prog 63 args h R :=
  hcalls_of Try.func63 rfl rfl (by kernel_rfl) (by kernel_rfl) ha hh
end Go.Proofs.Ythagjflkdoafmaa.Hc
