/-
  No cell of these rows narrows 'for every input' (looked for: loops, veiled, ifaces, maps, wideKeys, modest, calm, conditions, laid).
  DERIVED. THE GIVEN ROWS OF THIS SEAT. 7 by the template 'for every input the law returns true; each argument reads behind the call as it read before'; 0 by the template 'total and deterministic' (their statements: YthiaakjbapgibaaGreatTotals.lean).
  GIVEN WITH THE SEED: the statements are not yours to turn. If you find one false, say at which input.
  Laid BY PROGRAM, IN A SANDBOX (cutbox-rows.mjs): the forced cells as the released guide's own fill.sh prints them over the translation 5a96254ddea6798a… (all of the seat's roots in one cut). By AI agents, Wed Nov 11 2026. No macro, syntax, notation, axiom, sorry.
-/
import Derived.Test.YthiaakjbapgibaaGreatChecked
import GoSem.Claim
import GoSem.ClaimJoined
import GoSem.ClaimMapViews
import Derived.JoinedTies
import Derived.KernelRfl
namespace Go.Proofs.YthiaakjbapgibaaGreat
/- THE CELL 'sum', in the pinned program and in every row, IS THE sha256 OF THE DUMP (.gsa) THAT YthiaakjbapgibaaGreatProg.lean LOADS. Nothing in Lean hashes anything: it is a label: what it is worth is what the hold of that sum in a sandbox is worth. -/
noncomputable def Tryz.pinned : Pinned := { name := "ythiaakjbapgibaagreat", sum := "5a96254ddea6798a23e453c36e842d59a4fdfb20f6740e205387c2c75dc8ec8a", checked := Tryz.checked }
namespace Rows
def none {H : Type} : Left H := { results := [], args := [] }

/-- 'ropewalklaw22.AssocMeets': WHATEVER THE INPUT: true; the input reads as it did. -/
def assocMeetsSpec : ChangeSpec := { name := "assocMeets", fn := fun _ => fun
  | [d1, d2, d3, d4] => { results := [.lit (.bool true)], args := [d1, d2, d3, d4] }
  | _ => none }
def assocMeetsRow : OpenClaim := { program := "ythiaakjbapgibaagreat", sum := "5a96254ddea6798a23e453c36e842d59a4fdfb20f6740e205387c2c75dc8ec8a", func := "ropewalk/ropewalklaw22.AssocMeets", spec := "assocMeets", unfollowed := true, recurses := true, apart := false }
def AssocMeetsSaid : Prop := assocMeetsRow.holds Tryz.pinned (OpenSpec.ofChange assocMeetsSpec)

/-- ITS FALSE NEIGHBOUR: 'it returns false'. Refute it at one input. -/
def assocMeetsWrong : ChangeSpec := { name := "assocMeets", fn := fun _ => fun
  | [d1, d2, d3, d4] => { results := [.lit (.bool false)], args := [d1, d2, d3, d4] }
  | _ => none }
def AssocMeetsWrongFalsely : Prop := assocMeetsRow.holds Tryz.pinned (OpenSpec.ofChange assocMeetsWrong)

/-- 'ropewalklaw22.AssocShuts': WHATEVER THE INPUT: true; the input reads as it did. -/
def assocShutsSpec : ChangeSpec := { name := "assocShuts", fn := fun _ => fun
  | [d1, d2, d3, d4, d5, d6] => { results := [.lit (.bool true)], args := [d1, d2, d3, d4, d5, d6] }
  | _ => none }
def assocShutsRow : OpenClaim := { program := "ythiaakjbapgibaagreat", sum := "5a96254ddea6798a23e453c36e842d59a4fdfb20f6740e205387c2c75dc8ec8a", func := "ropewalk/ropewalklaw22.AssocShuts", spec := "assocShuts", unfollowed := true, recurses := true, apart := false }
def AssocShutsSaid : Prop := assocShutsRow.holds Tryz.pinned (OpenSpec.ofChange assocShutsSpec)

/-- ITS FALSE NEIGHBOUR: 'it returns false'. Refute it at one input. -/
def assocShutsWrong : ChangeSpec := { name := "assocShuts", fn := fun _ => fun
  | [d1, d2, d3, d4, d5, d6] => { results := [.lit (.bool false)], args := [d1, d2, d3, d4, d5, d6] }
  | _ => none }
def AssocShutsWrongFalsely : Prop := assocShutsRow.holds Tryz.pinned (OpenSpec.ofChange assocShutsWrong)

/-- 'ropewalklaw22.AssocSealed': WHATEVER THE INPUT: true; the input reads as it did. -/
def assocSealedSpec : ChangeSpec := { name := "assocSealed", fn := fun _ => fun
  | [d1, d2] => { results := [.lit (.bool true)], args := [d1, d2] }
  | _ => none }
def assocSealedRow : OpenClaim := { program := "ythiaakjbapgibaagreat", sum := "5a96254ddea6798a23e453c36e842d59a4fdfb20f6740e205387c2c75dc8ec8a", func := "ropewalk/ropewalklaw22.AssocSealed", spec := "assocSealed", unfollowed := true, recurses := true, apart := false }
def AssocSealedSaid : Prop := assocSealedRow.holds Tryz.pinned (OpenSpec.ofChange assocSealedSpec)

/-- ITS FALSE NEIGHBOUR: 'it returns false'. Refute it at one input. -/
def assocSealedWrong : ChangeSpec := { name := "assocSealed", fn := fun _ => fun
  | [d1, d2] => { results := [.lit (.bool false)], args := [d1, d2] }
  | _ => none }
def AssocSealedWrongFalsely : Prop := assocSealedRow.holds Tryz.pinned (OpenSpec.ofChange assocSealedWrong)

/-- 'ropewalklaw22.AssocTries': WHATEVER THE INPUT: true; the input reads as it did. -/
def assocTriesSpec : ChangeSpec := { name := "assocTries", fn := fun _ => fun
  | [d1, d2, d3] => { results := [.lit (.bool true)], args := [d1, d2, d3] }
  | _ => none }
def assocTriesRow : OpenClaim := { program := "ythiaakjbapgibaagreat", sum := "5a96254ddea6798a23e453c36e842d59a4fdfb20f6740e205387c2c75dc8ec8a", func := "ropewalk/ropewalklaw22.AssocTries", spec := "assocTries", unfollowed := true, recurses := true, apart := false }
def AssocTriesSaid : Prop := assocTriesRow.holds Tryz.pinned (OpenSpec.ofChange assocTriesSpec)

/-- ITS FALSE NEIGHBOUR: 'it returns false'. Refute it at one input. -/
def assocTriesWrong : ChangeSpec := { name := "assocTries", fn := fun _ => fun
  | [d1, d2, d3] => { results := [.lit (.bool false)], args := [d1, d2, d3] }
  | _ => none }
def AssocTriesWrongFalsely : Prop := assocTriesRow.holds Tryz.pinned (OpenSpec.ofChange assocTriesWrong)

/-- 'ropewalklaw22.AssocRuns': WHATEVER THE INPUT: true; the input reads as it did. -/
def assocRunsSpec : ChangeSpec := { name := "assocRuns", fn := fun _ => fun
  | [d1, d2] => { results := [.lit (.bool true)], args := [d1, d2] }
  | _ => none }
def assocRunsRow : OpenClaim := { program := "ythiaakjbapgibaagreat", sum := "5a96254ddea6798a23e453c36e842d59a4fdfb20f6740e205387c2c75dc8ec8a", func := "ropewalk/ropewalklaw22.AssocRuns", spec := "assocRuns", unfollowed := true, recurses := true, apart := false }
def AssocRunsSaid : Prop := assocRunsRow.holds Tryz.pinned (OpenSpec.ofChange assocRunsSpec)

/-- ITS FALSE NEIGHBOUR: 'it returns false'. Refute it at one input. -/
def assocRunsWrong : ChangeSpec := { name := "assocRuns", fn := fun _ => fun
  | [d1, d2] => { results := [.lit (.bool false)], args := [d1, d2] }
  | _ => none }
def AssocRunsWrongFalsely : Prop := assocRunsRow.holds Tryz.pinned (OpenSpec.ofChange assocRunsWrong)

/-- 'ropewalklaw22.AssocStrangers': WHATEVER THE INPUT: true; the input reads as it did. -/
def assocStrangersSpec : ChangeSpec := { name := "assocStrangers", fn := fun _ => fun
  | [d1, d2, d3, d4, d5] => { results := [.lit (.bool true)], args := [d1, d2, d3, d4, d5] }
  | _ => none }
def assocStrangersRow : OpenClaim := { program := "ythiaakjbapgibaagreat", sum := "5a96254ddea6798a23e453c36e842d59a4fdfb20f6740e205387c2c75dc8ec8a", func := "ropewalk/ropewalklaw22.AssocStrangers", spec := "assocStrangers", unfollowed := true, recurses := true, apart := false }
def AssocStrangersSaid : Prop := assocStrangersRow.holds Tryz.pinned (OpenSpec.ofChange assocStrangersSpec)

/-- ITS FALSE NEIGHBOUR: 'it returns false'. Refute it at one input. -/
def assocStrangersWrong : ChangeSpec := { name := "assocStrangers", fn := fun _ => fun
  | [d1, d2, d3, d4, d5] => { results := [.lit (.bool false)], args := [d1, d2, d3, d4, d5] }
  | _ => none }
def AssocStrangersWrongFalsely : Prop := assocStrangersRow.holds Tryz.pinned (OpenSpec.ofChange assocStrangersWrong)

/-- 'ropewalklaw22.AssocNobody': WHATEVER THE INPUT: true; the input reads as it did. -/
def assocNobodySpec : ChangeSpec := { name := "assocNobody", fn := fun _ => fun
  | [d] => { results := [.lit (.bool true)], args := [d] }
  | _ => none }
def assocNobodyRow : OpenClaim := { program := "ythiaakjbapgibaagreat", sum := "5a96254ddea6798a23e453c36e842d59a4fdfb20f6740e205387c2c75dc8ec8a", func := "ropewalk/ropewalklaw22.AssocNobody", spec := "assocNobody", unfollowed := true, recurses := true, apart := false }
def AssocNobodySaid : Prop := assocNobodyRow.holds Tryz.pinned (OpenSpec.ofChange assocNobodySpec)

/-- ITS FALSE NEIGHBOUR: 'it returns false'. Refute it at one input. -/
def assocNobodyWrong : ChangeSpec := { name := "assocNobody", fn := fun _ => fun
  | [d] => { results := [.lit (.bool false)], args := [d] }
  | _ => none }
def AssocNobodyWrongFalsely : Prop := assocNobodyRow.holds Tryz.pinned (OpenSpec.ofChange assocNobodyWrong)

/- THE SECOND FORM. 'bulk': how many values and letters a reading holds, each counted each time it is reached (what is shared counts as often as it is met; a slice's spare places count too). A statement '..UptoSaid' is the law's where the arguments, and the package variables that the reading takes, are together of bulk at most 1048576: NARROWER than '..Said'. Prove '..Said' where nothing that the law and all that it calls make is longer than what came in: it says more and counts as full. Else prove '..UptoSaid'. A law counts once. -/
mutual
def uptoBulk {H : Type} : DataW H → Nat
  | .lit (.string bytes) => bytes.length + 1
  | .lit _ => 1
  | .nil => 1
  | .ptr d => uptoBulk d + 1
  | .slice elems spare => uptoBulkAll elems + uptoBulkAll spare + 1
  | .agg parts => uptoBulkAll parts + 1
  | .iface _ d => uptoBulk d + 1
  | .map entries => uptoBulkEntries entries + 1
  | .held _ => 1
def uptoBulkAll {H : Type} : List (DataW H) → Nat
  | [] => 0
  | d :: r => uptoBulk d + uptoBulkAll r
def uptoBulkEntries {H : Type} : List (Lit × DataW H) → Nat
  | [] => 0
  | x :: r => uptoBulkEntry x + uptoBulkEntries r
def uptoBulkEntry {H : Type} : Lit × DataW H → Nat
  | (.string bytes, d) => bytes.length + uptoBulk d + 1
  | (_, d) => uptoBulk d + 1
 end
def uptoSmall : (H : Type) → List (DataW H) → Bool := fun _ ds => decide (uptoBulkAll ds ≤ 1048576)
def OpenSpec.upto (s : _root_.Go.ChangeSpec) : _root_.Go.OpenSpec := { _root_.Go.OpenSpec.ofChange s with cond := some uptoSmall }

/-- 'ropewalklaw22.AssocMeets', WHERE WHAT IT READS IS OF BULK AT MOST 1048576: true; the input reads as it did. -/
def assocMeetsUptoRow : OpenClaim := { program := "ythiaakjbapgibaagreat", sum := "5a96254ddea6798a23e453c36e842d59a4fdfb20f6740e205387c2c75dc8ec8a", func := "ropewalk/ropewalklaw22.AssocMeets", spec := "assocMeets", unfollowed := true, recurses := true, apart := false, narrowed := true }
def AssocMeetsUptoSaid : Prop := assocMeetsUptoRow.holds Tryz.pinned (OpenSpec.upto assocMeetsSpec)

/-- 'ropewalklaw22.AssocShuts', WHERE WHAT IT READS IS OF BULK AT MOST 1048576: true; the input reads as it did. -/
def assocShutsUptoRow : OpenClaim := { program := "ythiaakjbapgibaagreat", sum := "5a96254ddea6798a23e453c36e842d59a4fdfb20f6740e205387c2c75dc8ec8a", func := "ropewalk/ropewalklaw22.AssocShuts", spec := "assocShuts", unfollowed := true, recurses := true, apart := false, narrowed := true }
def AssocShutsUptoSaid : Prop := assocShutsUptoRow.holds Tryz.pinned (OpenSpec.upto assocShutsSpec)

/-- 'ropewalklaw22.AssocSealed', WHERE WHAT IT READS IS OF BULK AT MOST 1048576: true; the input reads as it did. -/
def assocSealedUptoRow : OpenClaim := { program := "ythiaakjbapgibaagreat", sum := "5a96254ddea6798a23e453c36e842d59a4fdfb20f6740e205387c2c75dc8ec8a", func := "ropewalk/ropewalklaw22.AssocSealed", spec := "assocSealed", unfollowed := true, recurses := true, apart := false, narrowed := true }
def AssocSealedUptoSaid : Prop := assocSealedUptoRow.holds Tryz.pinned (OpenSpec.upto assocSealedSpec)

/-- 'ropewalklaw22.AssocTries', WHERE WHAT IT READS IS OF BULK AT MOST 1048576: true; the input reads as it did. -/
def assocTriesUptoRow : OpenClaim := { program := "ythiaakjbapgibaagreat", sum := "5a96254ddea6798a23e453c36e842d59a4fdfb20f6740e205387c2c75dc8ec8a", func := "ropewalk/ropewalklaw22.AssocTries", spec := "assocTries", unfollowed := true, recurses := true, apart := false, narrowed := true }
def AssocTriesUptoSaid : Prop := assocTriesUptoRow.holds Tryz.pinned (OpenSpec.upto assocTriesSpec)

/-- 'ropewalklaw22.AssocRuns', WHERE WHAT IT READS IS OF BULK AT MOST 1048576: true; the input reads as it did. -/
def assocRunsUptoRow : OpenClaim := { program := "ythiaakjbapgibaagreat", sum := "5a96254ddea6798a23e453c36e842d59a4fdfb20f6740e205387c2c75dc8ec8a", func := "ropewalk/ropewalklaw22.AssocRuns", spec := "assocRuns", unfollowed := true, recurses := true, apart := false, narrowed := true }
def AssocRunsUptoSaid : Prop := assocRunsUptoRow.holds Tryz.pinned (OpenSpec.upto assocRunsSpec)

/-- 'ropewalklaw22.AssocStrangers', WHERE WHAT IT READS IS OF BULK AT MOST 1048576: true; the input reads as it did. -/
def assocStrangersUptoRow : OpenClaim := { program := "ythiaakjbapgibaagreat", sum := "5a96254ddea6798a23e453c36e842d59a4fdfb20f6740e205387c2c75dc8ec8a", func := "ropewalk/ropewalklaw22.AssocStrangers", spec := "assocStrangers", unfollowed := true, recurses := true, apart := false, narrowed := true }
def AssocStrangersUptoSaid : Prop := assocStrangersUptoRow.holds Tryz.pinned (OpenSpec.upto assocStrangersSpec)

/-- 'ropewalklaw22.AssocNobody', WHERE WHAT IT READS IS OF BULK AT MOST 1048576: true; the input reads as it did. -/
def assocNobodyUptoRow : OpenClaim := { program := "ythiaakjbapgibaagreat", sum := "5a96254ddea6798a23e453c36e842d59a4fdfb20f6740e205387c2c75dc8ec8a", func := "ropewalk/ropewalklaw22.AssocNobody", spec := "assocNobody", unfollowed := true, recurses := true, apart := false, narrowed := true }
def AssocNobodyUptoSaid : Prop := assocNobodyUptoRow.holds Tryz.pinned (OpenSpec.upto assocNobodySpec)

end Rows
end Go.Proofs.YthiaakjbapgibaaGreat
