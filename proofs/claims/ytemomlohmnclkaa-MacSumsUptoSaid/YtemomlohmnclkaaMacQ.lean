/- The walk of MacSums as the row wants it. -/
import Derived.Test.YtemomlohmnclkaaMacN
namespace Go.Proofs.Ytemomlohmnclkaa.Mac
open Go.RowKit Go.Proofs.YtemomlohmnclkaaW.PrintWords Go.Proofs.Ytemomlohmnclkaa.Base
theorem rowL_length (ps : List (List UInt8)) : (rowL ps).length = ps.flatten.length + 8 * ps.length := by
  unfold rowL
  induction ps with
  | nil => rfl
  | cons p ps ih => rw [List.map_cons, List.flatten_cons, List.length_append, ih, List.length_append, textL_length, List.flatten_cons, List.length_append, List.length_cons]; omega
theorem macSums_law (k : List UInt8) (hk : k.length = 16) {w : World} (A : Option Addr) (c : Nat) (ps : List (List UInt8)) (hp : bytesK.C w A ps.length ps) (hc : ps.length ≤ c) (hm : ps.flatten.length + ps.length ≤ 1048576) :
    Calls Try.prog 5 #[.agg (keyV k), .slice A ps.length c] w fun e w' => e = .returned (.bool true) ∧ Below w.heap.size w w' :=
  macSums_row k hk A c ps hp (by rw [rowL_length]; omega)
end Go.Proofs.Ytemomlohmnclkaa.Mac
