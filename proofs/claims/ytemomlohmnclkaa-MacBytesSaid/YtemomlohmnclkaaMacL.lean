/- The walks as the rows want them. -/
import Derived.Test.YtemomlohmnclkaaMacK
namespace Go.Proofs.Ytemomlohmnclkaa.Mac
open Go.RowKit Go.Proofs.YtemomlohmnclkaaW.PrintWords Go.Proofs.Ytemomlohmnclkaa.Base
theorem macBytes_row (k : List UInt8) (hk : k.length = 16) {w : World} (A : Option Addr) (c : Nat) (l : List UInt8) (hb : byte.C w A l.length l) (hc : l.length ≤ c) (hm : c ≤ 140737488351232) :
    Calls Try.prog 3 #[.agg (keyV k), .slice A l.length c] w fun e w' => e = .returned (.bool true) ∧ Below w.heap.size w w' := macBytes_walk k hk w A c l hb (by omega)
end Go.Proofs.Ytemomlohmnclkaa.Mac
