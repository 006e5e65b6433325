/-
  No cell of these rows narrows 'for every input' (looked for: loops, veiled, ifaces, maps, wideKeys, modest, calm, conditions, laid).
  DERIVED. THE GIVEN ROWS OF THIS SEAT. 7 by the template 'for every input the law returns true; each argument reads behind the call as it read before'; 0 by the template 'total and deterministic' (their statements: YtjmadnpicidbeaaTotals.lean).
  GIVEN WITH THE SEED: the statements are not yours to turn. If you find one false, say at which input.
  Laid BY PROGRAM, IN A SANDBOX (cutbox-rows.mjs): the forced cells as the released guide's own fill.sh prints them over the translation 8e7203f3fd0aee0b… (all of the seat's roots in one cut). By AI agents, Wed Nov 11 2026. No macro, syntax, notation, axiom, sorry.
-/
import Derived.Test.YtjmadnpicidbeaaChecked
import GoSem.Claim
import GoSem.ClaimJoined
import GoSem.ClaimMapViews
import Derived.JoinedTies
import Derived.KernelRfl
namespace Go.Proofs.Ytjmadnpicidbeaa
/- THE CELL 'sum', in the pinned program and in every row, IS THE sha256 OF THE DUMP (.gsa) THAT YtjmadnpicidbeaaProg.lean LOADS. Nothing in Lean hashes anything: it is a label: what it is worth is what the hold of that sum in a sandbox is worth. -/
noncomputable def Try.pinned : Pinned := { name := "ytjmadnpicidbeaa", sum := "8e7203f3fd0aee0b6109a9148c5314111749582bb993653a5a77637b464cd618", checked := Try.checked }
namespace Rows
def none {H : Type} : Left H := { results := [], args := [] }

/-- 'ropewalklaw06.ChunkDecodes': WHATEVER THE INPUT: true; the input reads as it did. -/
def chunkDecodesSpec : ChangeSpec := { name := "chunkDecodes", fn := fun _ => fun
  | [d] => { results := [.lit (.bool true)], args := [d] }
  | _ => none }
def chunkDecodesRow : OpenClaim := { program := "ytjmadnpicidbeaa", sum := "8e7203f3fd0aee0b6109a9148c5314111749582bb993653a5a77637b464cd618", func := "ropewalk/ropewalklaw06.ChunkDecodes", spec := "chunkDecodes", unfollowed := true, recurses := true, apart := false }
def ChunkDecodesSaid : Prop := chunkDecodesRow.holds Try.pinned (OpenSpec.ofChange chunkDecodesSpec)

/-- ITS FALSE NEIGHBOUR: 'it returns false'. Refute it at one input. -/
def chunkDecodesWrong : ChangeSpec := { name := "chunkDecodes", fn := fun _ => fun
  | [d] => { results := [.lit (.bool false)], args := [d] }
  | _ => none }
def ChunkDecodesWrongFalsely : Prop := chunkDecodesRow.holds Try.pinned (OpenSpec.ofChange chunkDecodesWrong)

/-- 'ropewalklaw06.ChunkSames': WHATEVER THE INPUT: true; the input reads as it did. -/
def chunkSamesSpec : ChangeSpec := { name := "chunkSames", fn := fun _ => fun
  | [d1, d2] => { results := [.lit (.bool true)], args := [d1, d2] }
  | _ => none }
def chunkSamesRow : OpenClaim := { program := "ytjmadnpicidbeaa", sum := "8e7203f3fd0aee0b6109a9148c5314111749582bb993653a5a77637b464cd618", func := "ropewalk/ropewalklaw06.ChunkSames", spec := "chunkSames", unfollowed := true, recurses := true, apart := false }
def ChunkSamesSaid : Prop := chunkSamesRow.holds Try.pinned (OpenSpec.ofChange chunkSamesSpec)

/-- ITS FALSE NEIGHBOUR: 'it returns false'. Refute it at one input. -/
def chunkSamesWrong : ChangeSpec := { name := "chunkSames", fn := fun _ => fun
  | [d1, d2] => { results := [.lit (.bool false)], args := [d1, d2] }
  | _ => none }
def ChunkSamesWrongFalsely : Prop := chunkSamesRow.holds Try.pinned (OpenSpec.ofChange chunkSamesWrong)

/-- 'ropewalklaw06.ChunkReads': WHATEVER THE INPUT: true; the input reads as it did. -/
def chunkReadsSpec : ChangeSpec := { name := "chunkReads", fn := fun _ => fun
  | [d] => { results := [.lit (.bool true)], args := [d] }
  | _ => none }
def chunkReadsRow : OpenClaim := { program := "ytjmadnpicidbeaa", sum := "8e7203f3fd0aee0b6109a9148c5314111749582bb993653a5a77637b464cd618", func := "ropewalk/ropewalklaw06.ChunkReads", spec := "chunkReads", unfollowed := true, recurses := true, apart := false }
def ChunkReadsSaid : Prop := chunkReadsRow.holds Try.pinned (OpenSpec.ofChange chunkReadsSpec)

/-- ITS FALSE NEIGHBOUR: 'it returns false'. Refute it at one input. -/
def chunkReadsWrong : ChangeSpec := { name := "chunkReads", fn := fun _ => fun
  | [d] => { results := [.lit (.bool false)], args := [d] }
  | _ => none }
def ChunkReadsWrongFalsely : Prop := chunkReadsRow.holds Try.pinned (OpenSpec.ofChange chunkReadsWrong)

/-- 'ropewalklaw06.ChunkEncodes': WHATEVER THE INPUT: true; the input reads as it did. -/
def chunkEncodesSpec : ChangeSpec := { name := "chunkEncodes", fn := fun _ => fun
  | [d] => { results := [.lit (.bool true)], args := [d] }
  | _ => none }
def chunkEncodesRow : OpenClaim := { program := "ytjmadnpicidbeaa", sum := "8e7203f3fd0aee0b6109a9148c5314111749582bb993653a5a77637b464cd618", func := "ropewalk/ropewalklaw06.ChunkEncodes", spec := "chunkEncodes", unfollowed := true, recurses := true, apart := false }
def ChunkEncodesSaid : Prop := chunkEncodesRow.holds Try.pinned (OpenSpec.ofChange chunkEncodesSpec)

/-- ITS FALSE NEIGHBOUR: 'it returns false'. Refute it at one input. -/
def chunkEncodesWrong : ChangeSpec := { name := "chunkEncodes", fn := fun _ => fun
  | [d] => { results := [.lit (.bool false)], args := [d] }
  | _ => none }
def ChunkEncodesWrongFalsely : Prop := chunkEncodesRow.holds Try.pinned (OpenSpec.ofChange chunkEncodesWrong)

/-- 'ropewalklaw06.ChunkAlls': WHATEVER THE INPUT: true; the input reads as it did. -/
def chunkAllsSpec : ChangeSpec := { name := "chunkAlls", fn := fun _ => fun
  | [d] => { results := [.lit (.bool true)], args := [d] }
  | _ => none }
def chunkAllsRow : OpenClaim := { program := "ytjmadnpicidbeaa", sum := "8e7203f3fd0aee0b6109a9148c5314111749582bb993653a5a77637b464cd618", func := "ropewalk/ropewalklaw06.ChunkAlls", spec := "chunkAlls", unfollowed := true, recurses := true, apart := false }
def ChunkAllsSaid : Prop := chunkAllsRow.holds Try.pinned (OpenSpec.ofChange chunkAllsSpec)

/-- ITS FALSE NEIGHBOUR: 'it returns false'. Refute it at one input. -/
def chunkAllsWrong : ChangeSpec := { name := "chunkAlls", fn := fun _ => fun
  | [d] => { results := [.lit (.bool false)], args := [d] }
  | _ => none }
def ChunkAllsWrongFalsely : Prop := chunkAllsRow.holds Try.pinned (OpenSpec.ofChange chunkAllsWrong)

/-- 'ropewalklaw06.ChunkOwn': WHATEVER THE INPUT: true; the input reads as it did. -/
def chunkOwnSpec : ChangeSpec := { name := "chunkOwn", fn := fun _ => fun
  | [d] => { results := [.lit (.bool true)], args := [d] }
  | _ => none }
def chunkOwnRow : OpenClaim := { program := "ytjmadnpicidbeaa", sum := "8e7203f3fd0aee0b6109a9148c5314111749582bb993653a5a77637b464cd618", func := "ropewalk/ropewalklaw06.ChunkOwn", spec := "chunkOwn", unfollowed := true, recurses := true, apart := false }
def ChunkOwnSaid : Prop := chunkOwnRow.holds Try.pinned (OpenSpec.ofChange chunkOwnSpec)

/-- ITS FALSE NEIGHBOUR: 'it returns false'. Refute it at one input. -/
def chunkOwnWrong : ChangeSpec := { name := "chunkOwn", fn := fun _ => fun
  | [d] => { results := [.lit (.bool false)], args := [d] }
  | _ => none }
def ChunkOwnWrongFalsely : Prop := chunkOwnRow.holds Try.pinned (OpenSpec.ofChange chunkOwnWrong)

/-- 'ropewalklaw06.ChunkBack': WHATEVER THE INPUT: true; the input reads as it did. -/
def chunkBackSpec : ChangeSpec := { name := "chunkBack", fn := fun _ => fun
  | [d] => { results := [.lit (.bool true)], args := [d] }
  | _ => none }
def chunkBackRow : OpenClaim := { program := "ytjmadnpicidbeaa", sum := "8e7203f3fd0aee0b6109a9148c5314111749582bb993653a5a77637b464cd618", func := "ropewalk/ropewalklaw06.ChunkBack", spec := "chunkBack", unfollowed := true, recurses := true, apart := false }
def ChunkBackSaid : Prop := chunkBackRow.holds Try.pinned (OpenSpec.ofChange chunkBackSpec)

/-- ITS FALSE NEIGHBOUR: 'it returns false'. Refute it at one input. -/
def chunkBackWrong : ChangeSpec := { name := "chunkBack", fn := fun _ => fun
  | [d] => { results := [.lit (.bool false)], args := [d] }
  | _ => none }
def ChunkBackWrongFalsely : Prop := chunkBackRow.holds Try.pinned (OpenSpec.ofChange chunkBackWrong)

/- THE SECOND FORM. 'bulk': how many values and letters a reading holds, each counted each time it is reached (what is shared counts as often as it is met; a slice's spare places count too). A statement '..UptoSaid' is the law's where the arguments, and the package variables that the reading takes, are together of bulk at most 1048576: NARROWER than '..Said'. Prove '..Said' where nothing that the law and all that it calls make is longer than what came in: it says more and counts as full. Else prove '..UptoSaid'. A law counts once. -/
mutual
def uptoBulk {H : Type} : DataW H → Nat
  | .lit (.string bytes) => bytes.length + 1
  | .lit _ => 1
  | .nil => 1
  | .ptr d => uptoBulk d + 1
  | .slice elems spare => uptoBulkAll elems + uptoBulkAll spare + 1
  | .agg parts => uptoBulkAll parts + 1
  | .iface _ d => uptoBulk d + 1
  | .map entries => uptoBulkEntries entries + 1
  | .held _ => 1
def uptoBulkAll {H : Type} : List (DataW H) → Nat
  | [] => 0
  | d :: r => uptoBulk d + uptoBulkAll r
def uptoBulkEntries {H : Type} : List (Lit × DataW H) → Nat
  | [] => 0
  | x :: r => uptoBulkEntry x + uptoBulkEntries r
def uptoBulkEntry {H : Type} : Lit × DataW H → Nat
  | (.string bytes, d) => bytes.length + uptoBulk d + 1
  | (_, d) => uptoBulk d + 1
 end
def uptoSmall : (H : Type) → List (DataW H) → Bool := fun _ ds => decide (uptoBulkAll ds ≤ 1048576)
def OpenSpec.upto (s : _root_.Go.ChangeSpec) : _root_.Go.OpenSpec := { _root_.Go.OpenSpec.ofChange s with cond := some uptoSmall }

/-- 'ropewalklaw06.ChunkDecodes', WHERE WHAT IT READS IS OF BULK AT MOST 1048576: true; the input reads as it did. -/
def chunkDecodesUptoRow : OpenClaim := { program := "ytjmadnpicidbeaa", sum := "8e7203f3fd0aee0b6109a9148c5314111749582bb993653a5a77637b464cd618", func := "ropewalk/ropewalklaw06.ChunkDecodes", spec := "chunkDecodes", unfollowed := true, recurses := true, apart := false, narrowed := true }
def ChunkDecodesUptoSaid : Prop := chunkDecodesUptoRow.holds Try.pinned (OpenSpec.upto chunkDecodesSpec)

/-- 'ropewalklaw06.ChunkSames', WHERE WHAT IT READS IS OF BULK AT MOST 1048576: true; the input reads as it did. -/
def chunkSamesUptoRow : OpenClaim := { program := "ytjmadnpicidbeaa", sum := "8e7203f3fd0aee0b6109a9148c5314111749582bb993653a5a77637b464cd618", func := "ropewalk/ropewalklaw06.ChunkSames", spec := "chunkSames", unfollowed := true, recurses := true, apart := false, narrowed := true }
def ChunkSamesUptoSaid : Prop := chunkSamesUptoRow.holds Try.pinned (OpenSpec.upto chunkSamesSpec)

/-- 'ropewalklaw06.ChunkReads', WHERE WHAT IT READS IS OF BULK AT MOST 1048576: true; the input reads as it did. -/
def chunkReadsUptoRow : OpenClaim := { program := "ytjmadnpicidbeaa", sum := "8e7203f3fd0aee0b6109a9148c5314111749582bb993653a5a77637b464cd618", func := "ropewalk/ropewalklaw06.ChunkReads", spec := "chunkReads", unfollowed := true, recurses := true, apart := false, narrowed := true }
def ChunkReadsUptoSaid : Prop := chunkReadsUptoRow.holds Try.pinned (OpenSpec.upto chunkReadsSpec)

/-- 'ropewalklaw06.ChunkEncodes', WHERE WHAT IT READS IS OF BULK AT MOST 1048576: true; the input reads as it did. -/
def chunkEncodesUptoRow : OpenClaim := { program := "ytjmadnpicidbeaa", sum := "8e7203f3fd0aee0b6109a9148c5314111749582bb993653a5a77637b464cd618", func := "ropewalk/ropewalklaw06.ChunkEncodes", spec := "chunkEncodes", unfollowed := true, recurses := true, apart := false, narrowed := true }
def ChunkEncodesUptoSaid : Prop := chunkEncodesUptoRow.holds Try.pinned (OpenSpec.upto chunkEncodesSpec)

/-- 'ropewalklaw06.ChunkAlls', WHERE WHAT IT READS IS OF BULK AT MOST 1048576: true; the input reads as it did. -/
def chunkAllsUptoRow : OpenClaim := { program := "ytjmadnpicidbeaa", sum := "8e7203f3fd0aee0b6109a9148c5314111749582bb993653a5a77637b464cd618", func := "ropewalk/ropewalklaw06.ChunkAlls", spec := "chunkAlls", unfollowed := true, recurses := true, apart := false, narrowed := true }
def ChunkAllsUptoSaid : Prop := chunkAllsUptoRow.holds Try.pinned (OpenSpec.upto chunkAllsSpec)

/-- 'ropewalklaw06.ChunkOwn', WHERE WHAT IT READS IS OF BULK AT MOST 1048576: true; the input reads as it did. -/
def chunkOwnUptoRow : OpenClaim := { program := "ytjmadnpicidbeaa", sum := "8e7203f3fd0aee0b6109a9148c5314111749582bb993653a5a77637b464cd618", func := "ropewalk/ropewalklaw06.ChunkOwn", spec := "chunkOwn", unfollowed := true, recurses := true, apart := false, narrowed := true }
def ChunkOwnUptoSaid : Prop := chunkOwnUptoRow.holds Try.pinned (OpenSpec.upto chunkOwnSpec)

/-- 'ropewalklaw06.ChunkBack', WHERE WHAT IT READS IS OF BULK AT MOST 1048576: true; the input reads as it did. -/
def chunkBackUptoRow : OpenClaim := { program := "ytjmadnpicidbeaa", sum := "8e7203f3fd0aee0b6109a9148c5314111749582bb993653a5a77637b464cd618", func := "ropewalk/ropewalklaw06.ChunkBack", spec := "chunkBack", unfollowed := true, recurses := true, apart := false, narrowed := true }
def ChunkBackUptoSaid : Prop := chunkBackUptoRow.holds Try.pinned (OpenSpec.upto chunkBackSpec)

end Rows
end Go.Proofs.Ytjmadnpicidbeaa
