/- The law Firm, as its row asks for it. -/
import Derived.Test.YtlbmhpjefpdekaaXH
import Derived.Test.YtlbmhpjefpdekaaXE
namespace Go.Proofs.Ytlbmhpjefpdekaa.Hc
open Go Go.H Go.Proofs
theorem diskFirm_spec {h : Heap} {a a' am : Option Addr} {c c' cm n : Nat} {l m : List OpP} {xs ys : List Value} {mask : List UInt8} (s : Sl h 4 a l.length c xs) (es : Els (OpRep h.size) h l xs) (hl : l.length ≤ 1048576) (s' : Sl h 4 a' m.length c' ys) (em : Els (OpRep h.size) h m ys) (hm : m.length ≤ 1048576) (sk : Sl h 1 am n cm (mask.map byteV)) (hk : n ≤ 1048576) :
    HCalls Try.prog 4 #[.slice a l.length c, .slice a' m.length c', .slice am n cm] h fun e h' => e = .returned (.bool true) ∧ Ext h h' := by
  obtain rfl : mask.length = n := by simpa using sk.1
  exact diskFirm_spec0 s es hl s' em hm (fun h' k => sl_low sk k) hk
end Go.Proofs.Ytlbmhpjefpdekaa.Hc
