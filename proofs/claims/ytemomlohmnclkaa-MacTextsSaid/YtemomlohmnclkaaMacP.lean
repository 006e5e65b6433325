/- The walk of MacTexts as the row wants it. -/
import Derived.Test.YtemomlohmnclkaaMacO
import Derived.Test.YtemomlohmnclkaaOpen
namespace Go.Proofs.Ytemomlohmnclkaa.Mac
open Go.RowKit Go.Proofs.YtemomlohmnclkaaW.PrintWords Go.Proofs.Ytemomlohmnclkaa.Base
theorem u64_of_wf {n : Int} (h : (Lit.int .u64 n).wf = true) : ((UInt64.ofNat n.toNat).toNat : Int) = n := by
  have := bounds_u64 h
  rw [UInt64.toNat_ofNat']
  omega
theorem macTexts_law (a0 : Int) (w0 : (Lit.int .u64 a0).wf = true) {w : World} (A : Option Addr) (c : Nat) (l : List UInt8) (hb : byte.C w A l.length l) (hc : l.length ≤ c) (hm : c ≤ 140737488351232) (a2 : Int) (w2 : (Lit.int .i64 a2).wf = true) (a3 : Int) (w3 : (Lit.int .u8 a3).wf = true) :
    Calls Try.prog 4 #[.int .u64 a0, .slice A l.length c, .int .i64 a2, .int .u8 a3] w fun e w' => e = .returned (.bool true) ∧ Below w.heap.size w w' := by
  have h := macTexts_row (UInt64.ofNat a0.toNat) A c l hb hc hm a2 (UInt8.ofNat a3.toNat)
  rw [u64_of_wf w0, u8_of_wf w3] at h
  exact h
end Go.Proofs.Ytemomlohmnclkaa.Mac
