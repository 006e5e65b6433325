/-
  No cell of these rows narrows 'for every input' (looked for: loops, veiled, ifaces, maps, wideKeys, modest, calm, conditions, laid).
  DERIVED. THE GIVEN ROWS OF THIS SEAT. 5 by the template 'for every input the law returns true; each argument reads behind the call as it read before'; 0 by the template 'total and deterministic' (their statements: YtgfkdebbdjojmaaTotals.lean).
  GIVEN WITH THE SEED: the statements are not yours to turn. If you find one false, say at which input.
  Laid BY PROGRAM, IN A SANDBOX (cutbox-rows.mjs): the forced cells as the released guide's own fill.sh prints them over the translation 545a95510e6efd00… (all of the seat's roots in one cut). By AI agents, Wed Nov 11 2026. No macro, syntax, notation, axiom, sorry.
-/
import Derived.Test.YtgfkdebbdjojmaaChecked
import GoSem.Claim
import GoSem.ClaimJoined
import GoSem.ClaimMapViews
import Derived.JoinedTies
import Derived.KernelRfl
namespace Go.Proofs.Ytgfkdebbdjojmaa
/- THE CELL 'sum', in the pinned program and in every row, IS THE sha256 OF THE DUMP (.gsa) THAT YtgfkdebbdjojmaaProg.lean LOADS. Nothing in Lean hashes anything: it is a label: what it is worth is what the hold of that sum in a sandbox is worth. -/
noncomputable def Try.pinned : Pinned := { name := "ytgfkdebbdjojmaa", sum := "545a95510e6efd00882e7856875286fde019b843f4952e4fbe81ab39d0ec9760", checked := Try.checked }
namespace Rows
def none {H : Type} : Left H := { results := [], args := [] }

/-- 'ropewalklaw15.FragCuts': WHATEVER THE INPUT: true; the input reads as it did. -/
def fragCutsSpec : ChangeSpec := { name := "fragCuts", fn := fun _ => fun
  | [d1, d2, d3] => { results := [.lit (.bool true)], args := [d1, d2, d3] }
  | _ => none }
def fragCutsRow : OpenClaim := { program := "ytgfkdebbdjojmaa", sum := "545a95510e6efd00882e7856875286fde019b843f4952e4fbe81ab39d0ec9760", func := "ropewalk/ropewalklaw15.FragCuts", spec := "fragCuts", unfollowed := true, recurses := true, apart := false }
def FragCutsSaid : Prop := fragCutsRow.holds Try.pinned (OpenSpec.ofChange fragCutsSpec)

/-- ITS FALSE NEIGHBOUR: 'it returns false'. Refute it at one input. -/
def fragCutsWrong : ChangeSpec := { name := "fragCuts", fn := fun _ => fun
  | [d1, d2, d3] => { results := [.lit (.bool false)], args := [d1, d2, d3] }
  | _ => none }
def FragCutsWrongFalsely : Prop := fragCutsRow.holds Try.pinned (OpenSpec.ofChange fragCutsWrong)

/-- 'ropewalklaw15.FragJoins': WHATEVER THE INPUT: true; the input reads as it did. -/
def fragJoinsSpec : ChangeSpec := { name := "fragJoins", fn := fun _ => fun
  | [d] => { results := [.lit (.bool true)], args := [d] }
  | _ => none }
def fragJoinsRow : OpenClaim := { program := "ytgfkdebbdjojmaa", sum := "545a95510e6efd00882e7856875286fde019b843f4952e4fbe81ab39d0ec9760", func := "ropewalk/ropewalklaw15.FragJoins", spec := "fragJoins", unfollowed := true, recurses := true, apart := false }
def FragJoinsSaid : Prop := fragJoinsRow.holds Try.pinned (OpenSpec.ofChange fragJoinsSpec)

/-- ITS FALSE NEIGHBOUR: 'it returns false'. Refute it at one input. -/
def fragJoinsWrong : ChangeSpec := { name := "fragJoins", fn := fun _ => fun
  | [d] => { results := [.lit (.bool false)], args := [d] }
  | _ => none }
def FragJoinsWrongFalsely : Prop := fragJoinsRow.holds Try.pinned (OpenSpec.ofChange fragJoinsWrong)

/-- 'ropewalklaw15.FragBack': WHATEVER THE INPUT: true; the input reads as it did. -/
def fragBackSpec : ChangeSpec := { name := "fragBack", fn := fun _ => fun
  | [d1, d2] => { results := [.lit (.bool true)], args := [d1, d2] }
  | _ => none }
def fragBackRow : OpenClaim := { program := "ytgfkdebbdjojmaa", sum := "545a95510e6efd00882e7856875286fde019b843f4952e4fbe81ab39d0ec9760", func := "ropewalk/ropewalklaw15.FragBack", spec := "fragBack", unfollowed := true, recurses := true, apart := false }
def FragBackSaid : Prop := fragBackRow.holds Try.pinned (OpenSpec.ofChange fragBackSpec)

/-- ITS FALSE NEIGHBOUR: 'it returns false'. Refute it at one input. -/
def fragBackWrong : ChangeSpec := { name := "fragBack", fn := fun _ => fun
  | [d1, d2] => { results := [.lit (.bool false)], args := [d1, d2] }
  | _ => none }
def FragBackWrongFalsely : Prop := fragBackRow.holds Try.pinned (OpenSpec.ofChange fragBackWrong)

/-- 'ropewalklaw15.FragOwn': WHATEVER THE INPUT: true; the input reads as it did. -/
def fragOwnSpec : ChangeSpec := { name := "fragOwn", fn := fun _ => fun
  | [d1, d2] => { results := [.lit (.bool true)], args := [d1, d2] }
  | _ => none }
def fragOwnRow : OpenClaim := { program := "ytgfkdebbdjojmaa", sum := "545a95510e6efd00882e7856875286fde019b843f4952e4fbe81ab39d0ec9760", func := "ropewalk/ropewalklaw15.FragOwn", spec := "fragOwn", unfollowed := true, recurses := true, apart := false }
def FragOwnSaid : Prop := fragOwnRow.holds Try.pinned (OpenSpec.ofChange fragOwnSpec)

/-- ITS FALSE NEIGHBOUR: 'it returns false'. Refute it at one input. -/
def fragOwnWrong : ChangeSpec := { name := "fragOwn", fn := fun _ => fun
  | [d1, d2] => { results := [.lit (.bool false)], args := [d1, d2] }
  | _ => none }
def FragOwnWrongFalsely : Prop := fragOwnRow.holds Try.pinned (OpenSpec.ofChange fragOwnWrong)

/-- 'ropewalklaw15.FragRow': WHATEVER THE INPUT: true; the input reads as it did. -/
def fragRowSpec : ChangeSpec := { name := "fragRow", fn := fun _ => fun
  | [d1, d2] => { results := [.lit (.bool true)], args := [d1, d2] }
  | _ => none }
def fragRowRow : OpenClaim := { program := "ytgfkdebbdjojmaa", sum := "545a95510e6efd00882e7856875286fde019b843f4952e4fbe81ab39d0ec9760", func := "ropewalk/ropewalklaw15.FragRow", spec := "fragRow", unfollowed := true, recurses := true, apart := false }
def FragRowSaid : Prop := fragRowRow.holds Try.pinned (OpenSpec.ofChange fragRowSpec)

/-- ITS FALSE NEIGHBOUR: 'it returns false'. Refute it at one input. -/
def fragRowWrong : ChangeSpec := { name := "fragRow", fn := fun _ => fun
  | [d1, d2] => { results := [.lit (.bool false)], args := [d1, d2] }
  | _ => none }
def FragRowWrongFalsely : Prop := fragRowRow.holds Try.pinned (OpenSpec.ofChange fragRowWrong)

/- THE SECOND FORM. 'bulk': how many values and letters a reading holds, each counted each time it is reached (what is shared counts as often as it is met; a slice's spare places count too). A statement '..UptoSaid' is the law's where the arguments, and the package variables that the reading takes, are together of bulk at most 1048576: NARROWER than '..Said'. Prove '..Said' where nothing that the law and all that it calls make is longer than what came in: it says more and counts as full. Else prove '..UptoSaid'. A law counts once. -/
mutual
def uptoBulk {H : Type} : DataW H → Nat
  | .lit (.string bytes) => bytes.length + 1
  | .lit _ => 1
  | .nil => 1
  | .ptr d => uptoBulk d + 1
  | .slice elems spare => uptoBulkAll elems + uptoBulkAll spare + 1
  | .agg parts => uptoBulkAll parts + 1
  | .iface _ d => uptoBulk d + 1
  | .map entries => uptoBulkEntries entries + 1
  | .held _ => 1
def uptoBulkAll {H : Type} : List (DataW H) → Nat
  | [] => 0
  | d :: r => uptoBulk d + uptoBulkAll r
def uptoBulkEntries {H : Type} : List (Lit × DataW H) → Nat
  | [] => 0
  | x :: r => uptoBulkEntry x + uptoBulkEntries r
def uptoBulkEntry {H : Type} : Lit × DataW H → Nat
  | (.string bytes, d) => bytes.length + uptoBulk d + 1
  | (_, d) => uptoBulk d + 1
 end
def uptoSmall : (H : Type) → List (DataW H) → Bool := fun _ ds => decide (uptoBulkAll ds ≤ 1048576)
def OpenSpec.upto (s : _root_.Go.ChangeSpec) : _root_.Go.OpenSpec := { _root_.Go.OpenSpec.ofChange s with cond := some uptoSmall }

/-- 'ropewalklaw15.FragCuts', WHERE WHAT IT READS IS OF BULK AT MOST 1048576: true; the input reads as it did. -/
def fragCutsUptoRow : OpenClaim := { program := "ytgfkdebbdjojmaa", sum := "545a95510e6efd00882e7856875286fde019b843f4952e4fbe81ab39d0ec9760", func := "ropewalk/ropewalklaw15.FragCuts", spec := "fragCuts", unfollowed := true, recurses := true, apart := false, narrowed := true }
def FragCutsUptoSaid : Prop := fragCutsUptoRow.holds Try.pinned (OpenSpec.upto fragCutsSpec)

/-- 'ropewalklaw15.FragJoins', WHERE WHAT IT READS IS OF BULK AT MOST 1048576: true; the input reads as it did. -/
def fragJoinsUptoRow : OpenClaim := { program := "ytgfkdebbdjojmaa", sum := "545a95510e6efd00882e7856875286fde019b843f4952e4fbe81ab39d0ec9760", func := "ropewalk/ropewalklaw15.FragJoins", spec := "fragJoins", unfollowed := true, recurses := true, apart := false, narrowed := true }
def FragJoinsUptoSaid : Prop := fragJoinsUptoRow.holds Try.pinned (OpenSpec.upto fragJoinsSpec)

/-- 'ropewalklaw15.FragBack', WHERE WHAT IT READS IS OF BULK AT MOST 1048576: true; the input reads as it did. -/
def fragBackUptoRow : OpenClaim := { program := "ytgfkdebbdjojmaa", sum := "545a95510e6efd00882e7856875286fde019b843f4952e4fbe81ab39d0ec9760", func := "ropewalk/ropewalklaw15.FragBack", spec := "fragBack", unfollowed := true, recurses := true, apart := false, narrowed := true }
def FragBackUptoSaid : Prop := fragBackUptoRow.holds Try.pinned (OpenSpec.upto fragBackSpec)

/-- 'ropewalklaw15.FragOwn', WHERE WHAT IT READS IS OF BULK AT MOST 1048576: true; the input reads as it did. -/
def fragOwnUptoRow : OpenClaim := { program := "ytgfkdebbdjojmaa", sum := "545a95510e6efd00882e7856875286fde019b843f4952e4fbe81ab39d0ec9760", func := "ropewalk/ropewalklaw15.FragOwn", spec := "fragOwn", unfollowed := true, recurses := true, apart := false, narrowed := true }
def FragOwnUptoSaid : Prop := fragOwnUptoRow.holds Try.pinned (OpenSpec.upto fragOwnSpec)

/-- 'ropewalklaw15.FragRow', WHERE WHAT IT READS IS OF BULK AT MOST 1048576: true; the input reads as it did. -/
def fragRowUptoRow : OpenClaim := { program := "ytgfkdebbdjojmaa", sum := "545a95510e6efd00882e7856875286fde019b843f4952e4fbe81ab39d0ec9760", func := "ropewalk/ropewalklaw15.FragRow", spec := "fragRow", unfollowed := true, recurses := true, apart := false, narrowed := true }
def FragRowUptoSaid : Prop := fragRowUptoRow.holds Try.pinned (OpenSpec.upto fragRowSpec)

end Rows
end Go.Proofs.Ytgfkdebbdjojmaa
