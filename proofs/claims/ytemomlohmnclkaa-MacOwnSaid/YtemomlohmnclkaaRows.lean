/-
  No cell of these rows narrows 'for every input' (looked for: loops, veiled, ifaces, maps, wideKeys, modest, calm, conditions, laid).
  DERIVED. THE GIVEN ROWS OF THIS SEAT. 4 by the template 'for every input the law returns true; each argument reads behind the call as it read before'; 0 by the template 'total and deterministic' (their statements: YtemomlohmnclkaaTotals.lean).
  GIVEN WITH THE SEED: the statements are not yours to turn. If you find one false, say at which input.
  Laid BY PROGRAM, IN A SANDBOX (cutbox-rows.mjs): the forced cells as the released guide's own fill.sh prints them over the translation cbfd4a902da97412… (all of the seat's roots in one cut). By AI agents, Wed Nov 11 2026. No macro, syntax, notation, axiom, sorry.
-/
import Derived.Test.YtemomlohmnclkaaChecked
import GoSem.Claim
import GoSem.ClaimJoined
import GoSem.ClaimMapViews
import Derived.JoinedTies
import Derived.KernelRfl
namespace Go.Proofs.Ytemomlohmnclkaa
/- THE CELL 'sum', in the pinned program and in every row, IS THE sha256 OF THE DUMP (.gsa) THAT YtemomlohmnclkaaProg.lean LOADS. Nothing in Lean hashes anything: it is a label: what it is worth is what the hold of that sum in a sandbox is worth. -/
noncomputable def Try.pinned : Pinned := { name := "ytemomlohmnclkaa", sum := "cbfd4a902da97412100cd2db09b5d02b561d25d37374f421dce257db6cda0d09", checked := Try.checked }
namespace Rows
def none {H : Type} : Left H := { results := [], args := [] }

/-- 'ropewalklaw04.MacBytes': WHATEVER THE INPUT: true; the input reads as it did. -/
def macBytesSpec : ChangeSpec := { name := "macBytes", fn := fun _ => fun
  | [d1, d2] => { results := [.lit (.bool true)], args := [d1, d2] }
  | _ => none }
def macBytesRow : OpenClaim := { program := "ytemomlohmnclkaa", sum := "cbfd4a902da97412100cd2db09b5d02b561d25d37374f421dce257db6cda0d09", func := "ropewalk/ropewalklaw04.MacBytes", spec := "macBytes", apart := false }
def MacBytesSaid : Prop := macBytesRow.holds Try.pinned (OpenSpec.ofChange macBytesSpec)

/-- ITS FALSE NEIGHBOUR: 'it returns false'. Refute it at one input. -/
def macBytesWrong : ChangeSpec := { name := "macBytes", fn := fun _ => fun
  | [d1, d2] => { results := [.lit (.bool false)], args := [d1, d2] }
  | _ => none }
def MacBytesWrongFalsely : Prop := macBytesRow.holds Try.pinned (OpenSpec.ofChange macBytesWrong)

/-- 'ropewalklaw04.MacTexts': WHATEVER THE INPUT: true; the input reads as it did. -/
def macTextsSpec : ChangeSpec := { name := "macTexts", fn := fun _ => fun
  | [d1, d2, d3, d4] => { results := [.lit (.bool true)], args := [d1, d2, d3, d4] }
  | _ => none }
def macTextsRow : OpenClaim := { program := "ytemomlohmnclkaa", sum := "cbfd4a902da97412100cd2db09b5d02b561d25d37374f421dce257db6cda0d09", func := "ropewalk/ropewalklaw04.MacTexts", spec := "macTexts", apart := false }
def MacTextsSaid : Prop := macTextsRow.holds Try.pinned (OpenSpec.ofChange macTextsSpec)

/-- ITS FALSE NEIGHBOUR: 'it returns false'. Refute it at one input. -/
def macTextsWrong : ChangeSpec := { name := "macTexts", fn := fun _ => fun
  | [d1, d2, d3, d4] => { results := [.lit (.bool false)], args := [d1, d2, d3, d4] }
  | _ => none }
def MacTextsWrongFalsely : Prop := macTextsRow.holds Try.pinned (OpenSpec.ofChange macTextsWrong)

/-- 'ropewalklaw04.MacSums': WHATEVER THE INPUT: true; the input reads as it did. -/
def macSumsSpec : ChangeSpec := { name := "macSums", fn := fun _ => fun
  | [d1, d2] => { results := [.lit (.bool true)], args := [d1, d2] }
  | _ => none }
def macSumsRow : OpenClaim := { program := "ytemomlohmnclkaa", sum := "cbfd4a902da97412100cd2db09b5d02b561d25d37374f421dce257db6cda0d09", func := "ropewalk/ropewalklaw04.MacSums", spec := "macSums", apart := false }
def MacSumsSaid : Prop := macSumsRow.holds Try.pinned (OpenSpec.ofChange macSumsSpec)

/-- ITS FALSE NEIGHBOUR: 'it returns false'. Refute it at one input. -/
def macSumsWrong : ChangeSpec := { name := "macSums", fn := fun _ => fun
  | [d1, d2] => { results := [.lit (.bool false)], args := [d1, d2] }
  | _ => none }
def MacSumsWrongFalsely : Prop := macSumsRow.holds Try.pinned (OpenSpec.ofChange macSumsWrong)

/-- 'ropewalklaw04.MacOwn': WHATEVER THE INPUT: true; the input reads as it did. -/
def macOwnSpec : ChangeSpec := { name := "macOwn", fn := fun _ => fun
  | [d1, d2] => { results := [.lit (.bool true)], args := [d1, d2] }
  | _ => none }
def macOwnRow : OpenClaim := { program := "ytemomlohmnclkaa", sum := "cbfd4a902da97412100cd2db09b5d02b561d25d37374f421dce257db6cda0d09", func := "ropewalk/ropewalklaw04.MacOwn", spec := "macOwn", apart := false }
def MacOwnSaid : Prop := macOwnRow.holds Try.pinned (OpenSpec.ofChange macOwnSpec)

/-- ITS FALSE NEIGHBOUR: 'it returns false'. Refute it at one input. -/
def macOwnWrong : ChangeSpec := { name := "macOwn", fn := fun _ => fun
  | [d1, d2] => { results := [.lit (.bool false)], args := [d1, d2] }
  | _ => none }
def MacOwnWrongFalsely : Prop := macOwnRow.holds Try.pinned (OpenSpec.ofChange macOwnWrong)

/- THE SECOND FORM. 'bulk': how many values and letters a reading holds, each counted each time it is reached (what is shared counts as often as it is met; a slice's spare places count too). A statement '..UptoSaid' is the law's where the arguments, and the package variables that the reading takes, are together of bulk at most 1048576: NARROWER than '..Said'. Prove '..Said' where nothing that the law and all that it calls make is longer than what came in: it says more and counts as full. Else prove '..UptoSaid'. A law counts once. -/
mutual
def uptoBulk {H : Type} : DataW H → Nat
  | .lit (.string bytes) => bytes.length + 1
  | .lit _ => 1
  | .nil => 1
  | .ptr d => uptoBulk d + 1
  | .slice elems spare => uptoBulkAll elems + uptoBulkAll spare + 1
  | .agg parts => uptoBulkAll parts + 1
  | .iface _ d => uptoBulk d + 1
  | .map entries => uptoBulkEntries entries + 1
  | .held _ => 1
def uptoBulkAll {H : Type} : List (DataW H) → Nat
  | [] => 0
  | d :: r => uptoBulk d + uptoBulkAll r
def uptoBulkEntries {H : Type} : List (Lit × DataW H) → Nat
  | [] => 0
  | x :: r => uptoBulkEntry x + uptoBulkEntries r
def uptoBulkEntry {H : Type} : Lit × DataW H → Nat
  | (.string bytes, d) => bytes.length + uptoBulk d + 1
  | (_, d) => uptoBulk d + 1
 end
def uptoSmall : (H : Type) → List (DataW H) → Bool := fun _ ds => decide (uptoBulkAll ds ≤ 1048576)
def OpenSpec.upto (s : _root_.Go.ChangeSpec) : _root_.Go.OpenSpec := { _root_.Go.OpenSpec.ofChange s with cond := some uptoSmall }

/-- 'ropewalklaw04.MacBytes', WHERE WHAT IT READS IS OF BULK AT MOST 1048576: true; the input reads as it did. -/
def macBytesUptoRow : OpenClaim := { program := "ytemomlohmnclkaa", sum := "cbfd4a902da97412100cd2db09b5d02b561d25d37374f421dce257db6cda0d09", func := "ropewalk/ropewalklaw04.MacBytes", spec := "macBytes", apart := false, narrowed := true }
def MacBytesUptoSaid : Prop := macBytesUptoRow.holds Try.pinned (OpenSpec.upto macBytesSpec)

/-- 'ropewalklaw04.MacTexts', WHERE WHAT IT READS IS OF BULK AT MOST 1048576: true; the input reads as it did. -/
def macTextsUptoRow : OpenClaim := { program := "ytemomlohmnclkaa", sum := "cbfd4a902da97412100cd2db09b5d02b561d25d37374f421dce257db6cda0d09", func := "ropewalk/ropewalklaw04.MacTexts", spec := "macTexts", apart := false, narrowed := true }
def MacTextsUptoSaid : Prop := macTextsUptoRow.holds Try.pinned (OpenSpec.upto macTextsSpec)

/-- 'ropewalklaw04.MacSums', WHERE WHAT IT READS IS OF BULK AT MOST 1048576: true; the input reads as it did. -/
def macSumsUptoRow : OpenClaim := { program := "ytemomlohmnclkaa", sum := "cbfd4a902da97412100cd2db09b5d02b561d25d37374f421dce257db6cda0d09", func := "ropewalk/ropewalklaw04.MacSums", spec := "macSums", apart := false, narrowed := true }
def MacSumsUptoSaid : Prop := macSumsUptoRow.holds Try.pinned (OpenSpec.upto macSumsSpec)

/-- 'ropewalklaw04.MacOwn', WHERE WHAT IT READS IS OF BULK AT MOST 1048576: true; the input reads as it did. -/
def macOwnUptoRow : OpenClaim := { program := "ytemomlohmnclkaa", sum := "cbfd4a902da97412100cd2db09b5d02b561d25d37374f421dce257db6cda0d09", func := "ropewalk/ropewalklaw04.MacOwn", spec := "macOwn", apart := false, narrowed := true }
def MacOwnUptoSaid : Prop := macOwnUptoRow.holds Try.pinned (OpenSpec.upto macOwnSpec)

end Rows
end Go.Proofs.Ytemomlohmnclkaa
