/-
  No cell of these rows narrows 'for every input' (looked for: loops, veiled, ifaces, maps, wideKeys, modest, calm, conditions, laid).
  DERIVED. THE GIVEN ROWS OF THIS SEAT. 7 by the template 'for every input the law returns true; each argument reads behind the call as it read before'; 0 by the template 'total and deterministic' (their statements: YtjlgddmcjccbeaaTotals.lean).
  GIVEN WITH THE SEED: the statements are not yours to turn. If you find one false, say at which input.
  Laid BY PROGRAM, IN A SANDBOX (cutbox-rows.mjs): the forced cells as the released guide's own fill.sh prints them over the translation de27439ee13d022c… (all of the seat's roots in one cut). By AI agents, Wed Nov 11 2026. No macro, syntax, notation, axiom, sorry.
-/
import Derived.Test.YtjlgddmcjccbeaaChecked
import GoSem.Claim
import GoSem.ClaimJoined
import GoSem.ClaimMapViews
import Derived.JoinedTies
import Derived.KernelRfl
namespace Go.Proofs.Ytjlgddmcjccbeaa
/- THE CELL 'sum', in the pinned program and in every row, IS THE sha256 OF THE DUMP (.gsa) THAT YtjlgddmcjccbeaaProg.lean LOADS. Nothing in Lean hashes anything: it is a label: what it is worth is what the hold of that sum in a sandbox is worth. -/
noncomputable def Try.pinned : Pinned := { name := "ytjlgddmcjccbeaa", sum := "de27439ee13d022ccd1c8cfba71f7715cd1a1a9bd63cec919211dac10b968005", checked := Try.checked }
namespace Rows
def none {H : Type} : Left H := { results := [], args := [] }

/-- 'ropewalklaw05.ParamEncodes': WHATEVER THE INPUT: true; the input reads as it did. -/
def paramEncodesSpec : ChangeSpec := { name := "paramEncodes", fn := fun _ => fun
  | [d] => { results := [.lit (.bool true)], args := [d] }
  | _ => none }
def paramEncodesRow : OpenClaim := { program := "ytjlgddmcjccbeaa", sum := "de27439ee13d022ccd1c8cfba71f7715cd1a1a9bd63cec919211dac10b968005", func := "ropewalk/ropewalklaw05.ParamEncodes", spec := "paramEncodes", apart := false }
def ParamEncodesSaid : Prop := paramEncodesRow.holds Try.pinned (OpenSpec.ofChange paramEncodesSpec)

/-- ITS FALSE NEIGHBOUR: 'it returns false'. Refute it at one input. -/
def paramEncodesWrong : ChangeSpec := { name := "paramEncodes", fn := fun _ => fun
  | [d] => { results := [.lit (.bool false)], args := [d] }
  | _ => none }
def ParamEncodesWrongFalsely : Prop := paramEncodesRow.holds Try.pinned (OpenSpec.ofChange paramEncodesWrong)

/-- 'ropewalklaw05.ParamCauses': WHATEVER THE INPUT: true; the input reads as it did. -/
def paramCausesSpec : ChangeSpec := { name := "paramCauses", fn := fun _ => fun
  | [d1, d2] => { results := [.lit (.bool true)], args := [d1, d2] }
  | _ => none }
def paramCausesRow : OpenClaim := { program := "ytjlgddmcjccbeaa", sum := "de27439ee13d022ccd1c8cfba71f7715cd1a1a9bd63cec919211dac10b968005", func := "ropewalk/ropewalklaw05.ParamCauses", spec := "paramCauses", apart := false }
def ParamCausesSaid : Prop := paramCausesRow.holds Try.pinned (OpenSpec.ofChange paramCausesSpec)

/-- ITS FALSE NEIGHBOUR: 'it returns false'. Refute it at one input. -/
def paramCausesWrong : ChangeSpec := { name := "paramCauses", fn := fun _ => fun
  | [d1, d2] => { results := [.lit (.bool false)], args := [d1, d2] }
  | _ => none }
def ParamCausesWrongFalsely : Prop := paramCausesRow.holds Try.pinned (OpenSpec.ofChange paramCausesWrong)

/-- 'ropewalklaw05.ParamDecodes': WHATEVER THE INPUT: true; the input reads as it did. -/
def paramDecodesSpec : ChangeSpec := { name := "paramDecodes", fn := fun _ => fun
  | [d] => { results := [.lit (.bool true)], args := [d] }
  | _ => none }
def paramDecodesRow : OpenClaim := { program := "ytjlgddmcjccbeaa", sum := "de27439ee13d022ccd1c8cfba71f7715cd1a1a9bd63cec919211dac10b968005", func := "ropewalk/ropewalklaw05.ParamDecodes", spec := "paramDecodes", unfollowed := true, recurses := true, apart := false }
def ParamDecodesSaid : Prop := paramDecodesRow.holds Try.pinned (OpenSpec.ofChange paramDecodesSpec)

/-- ITS FALSE NEIGHBOUR: 'it returns false'. Refute it at one input. -/
def paramDecodesWrong : ChangeSpec := { name := "paramDecodes", fn := fun _ => fun
  | [d] => { results := [.lit (.bool false)], args := [d] }
  | _ => none }
def ParamDecodesWrongFalsely : Prop := paramDecodesRow.holds Try.pinned (OpenSpec.ofChange paramDecodesWrong)

/-- 'ropewalklaw05.ParamBack': WHATEVER THE INPUT: true; the input reads as it did. -/
def paramBackSpec : ChangeSpec := { name := "paramBack", fn := fun _ => fun
  | [d] => { results := [.lit (.bool true)], args := [d] }
  | _ => none }
def paramBackRow : OpenClaim := { program := "ytjlgddmcjccbeaa", sum := "de27439ee13d022ccd1c8cfba71f7715cd1a1a9bd63cec919211dac10b968005", func := "ropewalk/ropewalklaw05.ParamBack", spec := "paramBack", unfollowed := true, recurses := true, apart := false }
def ParamBackSaid : Prop := paramBackRow.holds Try.pinned (OpenSpec.ofChange paramBackSpec)

/-- ITS FALSE NEIGHBOUR: 'it returns false'. Refute it at one input. -/
def paramBackWrong : ChangeSpec := { name := "paramBack", fn := fun _ => fun
  | [d] => { results := [.lit (.bool false)], args := [d] }
  | _ => none }
def ParamBackWrongFalsely : Prop := paramBackRow.holds Try.pinned (OpenSpec.ofChange paramBackWrong)

/-- 'ropewalklaw05.ParamAgain': WHATEVER THE INPUT: true; the input reads as it did. -/
def paramAgainSpec : ChangeSpec := { name := "paramAgain", fn := fun _ => fun
  | [d] => { results := [.lit (.bool true)], args := [d] }
  | _ => none }
def paramAgainRow : OpenClaim := { program := "ytjlgddmcjccbeaa", sum := "de27439ee13d022ccd1c8cfba71f7715cd1a1a9bd63cec919211dac10b968005", func := "ropewalk/ropewalklaw05.ParamAgain", spec := "paramAgain", unfollowed := true, recurses := true, apart := false }
def ParamAgainSaid : Prop := paramAgainRow.holds Try.pinned (OpenSpec.ofChange paramAgainSpec)

/-- ITS FALSE NEIGHBOUR: 'it returns false'. Refute it at one input. -/
def paramAgainWrong : ChangeSpec := { name := "paramAgain", fn := fun _ => fun
  | [d] => { results := [.lit (.bool false)], args := [d] }
  | _ => none }
def ParamAgainWrongFalsely : Prop := paramAgainRow.holds Try.pinned (OpenSpec.ofChange paramAgainWrong)

/-- 'ropewalklaw05.ParamOwn': WHATEVER THE INPUT: true; the input reads as it did. -/
def paramOwnSpec : ChangeSpec := { name := "paramOwn", fn := fun _ => fun
  | [d] => { results := [.lit (.bool true)], args := [d] }
  | _ => none }
def paramOwnRow : OpenClaim := { program := "ytjlgddmcjccbeaa", sum := "de27439ee13d022ccd1c8cfba71f7715cd1a1a9bd63cec919211dac10b968005", func := "ropewalk/ropewalklaw05.ParamOwn", spec := "paramOwn", unfollowed := true, recurses := true, apart := false }
def ParamOwnSaid : Prop := paramOwnRow.holds Try.pinned (OpenSpec.ofChange paramOwnSpec)

/-- ITS FALSE NEIGHBOUR: 'it returns false'. Refute it at one input. -/
def paramOwnWrong : ChangeSpec := { name := "paramOwn", fn := fun _ => fun
  | [d] => { results := [.lit (.bool false)], args := [d] }
  | _ => none }
def ParamOwnWrongFalsely : Prop := paramOwnRow.holds Try.pinned (OpenSpec.ofChange paramOwnWrong)

/-- 'ropewalklaw05.ParamFinds': WHATEVER THE INPUT: true; the input reads as it did. -/
def paramFindsSpec : ChangeSpec := { name := "paramFinds", fn := fun _ => fun
  | [d1, d2, d3] => { results := [.lit (.bool true)], args := [d1, d2, d3] }
  | _ => none }
def paramFindsRow : OpenClaim := { program := "ytjlgddmcjccbeaa", sum := "de27439ee13d022ccd1c8cfba71f7715cd1a1a9bd63cec919211dac10b968005", func := "ropewalk/ropewalklaw05.ParamFinds", spec := "paramFinds", unfollowed := true, recurses := true, apart := false }
def ParamFindsSaid : Prop := paramFindsRow.holds Try.pinned (OpenSpec.ofChange paramFindsSpec)

/-- ITS FALSE NEIGHBOUR: 'it returns false'. Refute it at one input. -/
def paramFindsWrong : ChangeSpec := { name := "paramFinds", fn := fun _ => fun
  | [d1, d2, d3] => { results := [.lit (.bool false)], args := [d1, d2, d3] }
  | _ => none }
def ParamFindsWrongFalsely : Prop := paramFindsRow.holds Try.pinned (OpenSpec.ofChange paramFindsWrong)

/- THE SECOND FORM. 'bulk': how many values and letters a reading holds, each counted each time it is reached (what is shared counts as often as it is met; a slice's spare places count too). A statement '..UptoSaid' is the law's where the arguments, and the package variables that the reading takes, are together of bulk at most 1048576: NARROWER than '..Said'. Prove '..Said' where nothing that the law and all that it calls make is longer than what came in: it says more and counts as full. Else prove '..UptoSaid'. A law counts once. -/
mutual
def uptoBulk {H : Type} : DataW H → Nat
  | .lit (.string bytes) => bytes.length + 1
  | .lit _ => 1
  | .nil => 1
  | .ptr d => uptoBulk d + 1
  | .slice elems spare => uptoBulkAll elems + uptoBulkAll spare + 1
  | .agg parts => uptoBulkAll parts + 1
  | .iface _ d => uptoBulk d + 1
  | .map entries => uptoBulkEntries entries + 1
  | .held _ => 1
def uptoBulkAll {H : Type} : List (DataW H) → Nat
  | [] => 0
  | d :: r => uptoBulk d + uptoBulkAll r
def uptoBulkEntries {H : Type} : List (Lit × DataW H) → Nat
  | [] => 0
  | x :: r => uptoBulkEntry x + uptoBulkEntries r
def uptoBulkEntry {H : Type} : Lit × DataW H → Nat
  | (.string bytes, d) => bytes.length + uptoBulk d + 1
  | (_, d) => uptoBulk d + 1
 end
def uptoSmall : (H : Type) → List (DataW H) → Bool := fun _ ds => decide (uptoBulkAll ds ≤ 1048576)
def OpenSpec.upto (s : _root_.Go.ChangeSpec) : _root_.Go.OpenSpec := { _root_.Go.OpenSpec.ofChange s with cond := some uptoSmall }

/-- 'ropewalklaw05.ParamEncodes', WHERE WHAT IT READS IS OF BULK AT MOST 1048576: true; the input reads as it did. -/
def paramEncodesUptoRow : OpenClaim := { program := "ytjlgddmcjccbeaa", sum := "de27439ee13d022ccd1c8cfba71f7715cd1a1a9bd63cec919211dac10b968005", func := "ropewalk/ropewalklaw05.ParamEncodes", spec := "paramEncodes", apart := false, narrowed := true }
def ParamEncodesUptoSaid : Prop := paramEncodesUptoRow.holds Try.pinned (OpenSpec.upto paramEncodesSpec)

/-- 'ropewalklaw05.ParamCauses', WHERE WHAT IT READS IS OF BULK AT MOST 1048576: true; the input reads as it did. -/
def paramCausesUptoRow : OpenClaim := { program := "ytjlgddmcjccbeaa", sum := "de27439ee13d022ccd1c8cfba71f7715cd1a1a9bd63cec919211dac10b968005", func := "ropewalk/ropewalklaw05.ParamCauses", spec := "paramCauses", apart := false, narrowed := true }
def ParamCausesUptoSaid : Prop := paramCausesUptoRow.holds Try.pinned (OpenSpec.upto paramCausesSpec)

/-- 'ropewalklaw05.ParamDecodes', WHERE WHAT IT READS IS OF BULK AT MOST 1048576: true; the input reads as it did. -/
def paramDecodesUptoRow : OpenClaim := { program := "ytjlgddmcjccbeaa", sum := "de27439ee13d022ccd1c8cfba71f7715cd1a1a9bd63cec919211dac10b968005", func := "ropewalk/ropewalklaw05.ParamDecodes", spec := "paramDecodes", unfollowed := true, recurses := true, apart := false, narrowed := true }
def ParamDecodesUptoSaid : Prop := paramDecodesUptoRow.holds Try.pinned (OpenSpec.upto paramDecodesSpec)

/-- 'ropewalklaw05.ParamBack', WHERE WHAT IT READS IS OF BULK AT MOST 1048576: true; the input reads as it did. -/
def paramBackUptoRow : OpenClaim := { program := "ytjlgddmcjccbeaa", sum := "de27439ee13d022ccd1c8cfba71f7715cd1a1a9bd63cec919211dac10b968005", func := "ropewalk/ropewalklaw05.ParamBack", spec := "paramBack", unfollowed := true, recurses := true, apart := false, narrowed := true }
def ParamBackUptoSaid : Prop := paramBackUptoRow.holds Try.pinned (OpenSpec.upto paramBackSpec)

/-- 'ropewalklaw05.ParamAgain', WHERE WHAT IT READS IS OF BULK AT MOST 1048576: true; the input reads as it did. -/
def paramAgainUptoRow : OpenClaim := { program := "ytjlgddmcjccbeaa", sum := "de27439ee13d022ccd1c8cfba71f7715cd1a1a9bd63cec919211dac10b968005", func := "ropewalk/ropewalklaw05.ParamAgain", spec := "paramAgain", unfollowed := true, recurses := true, apart := false, narrowed := true }
def ParamAgainUptoSaid : Prop := paramAgainUptoRow.holds Try.pinned (OpenSpec.upto paramAgainSpec)

/-- 'ropewalklaw05.ParamOwn', WHERE WHAT IT READS IS OF BULK AT MOST 1048576: true; the input reads as it did. -/
def paramOwnUptoRow : OpenClaim := { program := "ytjlgddmcjccbeaa", sum := "de27439ee13d022ccd1c8cfba71f7715cd1a1a9bd63cec919211dac10b968005", func := "ropewalk/ropewalklaw05.ParamOwn", spec := "paramOwn", unfollowed := true, recurses := true, apart := false, narrowed := true }
def ParamOwnUptoSaid : Prop := paramOwnUptoRow.holds Try.pinned (OpenSpec.upto paramOwnSpec)

/-- 'ropewalklaw05.ParamFinds', WHERE WHAT IT READS IS OF BULK AT MOST 1048576: true; the input reads as it did. -/
def paramFindsUptoRow : OpenClaim := { program := "ytjlgddmcjccbeaa", sum := "de27439ee13d022ccd1c8cfba71f7715cd1a1a9bd63cec919211dac10b968005", func := "ropewalk/ropewalklaw05.ParamFinds", spec := "paramFinds", unfollowed := true, recurses := true, apart := false, narrowed := true }
def ParamFindsUptoSaid : Prop := paramFindsUptoRow.holds Try.pinned (OpenSpec.upto paramFindsSpec)

end Rows
end Go.Proofs.Ytjlgddmcjccbeaa
