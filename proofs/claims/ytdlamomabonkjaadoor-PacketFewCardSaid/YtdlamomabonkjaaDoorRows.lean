/-
  NARROWER THAN 'FOR EVERY INPUT', by the rows' own cells (each row's printed sentence says how): PacketOneBit: laid · PacketAgain: laid · PacketBack: laid · PacketEncodes: laid · PacketDecodes: laid · PacketBundles: laid · PacketFew: laid.
  DERIVED. THE GIVEN ROWS OF THIS SEAT. 7 by the template 'for every input the law returns true; each argument reads behind the call as it read before'; 0 by the template 'total and deterministic' (their statements: YtdlamomabonkjaaDoorTotals.lean).
  GIVEN WITH THE SEED: the statements are not yours to turn. If you find one false, say at which input.
  Laid BY PROGRAM, IN A SANDBOX (cutbox-rows.mjs): the forced cells as the released guide's own fill.sh prints them over the translation e30bedca5ad7bf8e… (all of the seat's roots in one cut). By AI agents, Wed Nov 11 2026. No macro, syntax, notation, axiom, sorry.
-/
import Derived.Test.YtdlamomabonkjaaDoorChecked
import GoSem.Claim
import GoSem.ClaimJoined
import GoSem.ClaimMapViews
import Derived.JoinedTies
import Derived.KernelRfl
namespace Go.Proofs.YtdlamomabonkjaaDoor
/- THE CELL 'sum', in the pinned program and in every row, IS THE sha256 OF THE DUMP (.gsa) THAT YtdlamomabonkjaaDoorProg.lean LOADS. Nothing in Lean hashes anything: it is a label: what it is worth is what the hold of that sum in a sandbox is worth. -/
noncomputable def Tryd.pinned : Pinned := { name := "ytdlamomabonkjaadoor", sum := "e30bedca5ad7bf8e46198b1750d887ed5c97b236486e6e0629027ea352ac9ea2", checked := Tryd.checked }
namespace Rows
def none {H : Type} : Left H := { results := [], args := [] }

/- WHAT THE LISTED PACKAGE-LEVEL VARIABLES READ AS WHEN THE CALL BEGINS. Each datum BY PROGRAM (the guide's laid-datum.mjs) off the statement by which the dump's own 'gosem.cut.vars' lays the variable. In a bare row this is a premise. The card (YtdlamomabonkjaaDoorCards.lean) ties it to the program's text. -/
def laid_ropewalk_crc_steps {H : Type} : DataW H := .agg [.lit (.int .u32 0), .lit (.int .u32 274646895), .lit (.int .u32 549293790), .lit (.int .u32 820201905), .lit (.int .u32 1098587580), .lit (.int .u32 1361435347), .lit (.int .u32 1640403810), .lit (.int .u32 1905808397), .lit (.int .u32 2197175160), .lit (.int .u32 2460548119), .lit (.int .u32 2722870694), .lit (.int .u32 2987750089), .lit (.int .u32 3280807620), .lit (.int .u32 3553878443), .lit (.int .u32 3811616794), .lit (.int .u32 4084100981)]

/-- 'ropewalklaw07.PacketOneBit': WHATEVER THE INPUT: true; the input reads as it did. -/
def packetOneBitSpec : ChangeSpec := { name := "packetOneBit", fn := fun _ => fun
  | [d1, d2] => { results := [.lit (.bool true)], args := [d1, d2] }
  | _ => none }
def packetOneBitRow : OpenClaim := { program := "ytdlamomabonkjaadoor", sum := "e30bedca5ad7bf8e46198b1750d887ed5c97b236486e6e0629027ea352ac9ea2", func := "ropewalk/ropewalklaw07.PacketOneBit", spec := "packetOneBit", unfollowed := true, recurses := true, named := ["ropewalk/crc.steps"], apart := false, laid := [("ropewalk/crc.steps", laid_ropewalk_crc_steps)] }
def PacketOneBitSaid : Prop := packetOneBitRow.holds Tryd.pinned (OpenSpec.ofChange packetOneBitSpec)

/-- ITS FALSE NEIGHBOUR: 'it returns false'. Refute it at one input. -/
def packetOneBitWrong : ChangeSpec := { name := "packetOneBit", fn := fun _ => fun
  | [d1, d2] => { results := [.lit (.bool false)], args := [d1, d2] }
  | _ => none }
def PacketOneBitWrongFalsely : Prop := packetOneBitRow.holds Tryd.pinned (OpenSpec.ofChange packetOneBitWrong)

/-- 'ropewalklaw07.PacketAgain': WHATEVER THE INPUT: true; the input reads as it did. -/
def packetAgainSpec : ChangeSpec := { name := "packetAgain", fn := fun _ => fun
  | [d] => { results := [.lit (.bool true)], args := [d] }
  | _ => none }
def packetAgainRow : OpenClaim := { program := "ytdlamomabonkjaadoor", sum := "e30bedca5ad7bf8e46198b1750d887ed5c97b236486e6e0629027ea352ac9ea2", func := "ropewalk/ropewalklaw07.PacketAgain", spec := "packetAgain", unfollowed := true, recurses := true, named := ["ropewalk/crc.steps"], apart := false, laid := [("ropewalk/crc.steps", laid_ropewalk_crc_steps)] }
def PacketAgainSaid : Prop := packetAgainRow.holds Tryd.pinned (OpenSpec.ofChange packetAgainSpec)

/-- ITS FALSE NEIGHBOUR: 'it returns false'. Refute it at one input. -/
def packetAgainWrong : ChangeSpec := { name := "packetAgain", fn := fun _ => fun
  | [d] => { results := [.lit (.bool false)], args := [d] }
  | _ => none }
def PacketAgainWrongFalsely : Prop := packetAgainRow.holds Tryd.pinned (OpenSpec.ofChange packetAgainWrong)

/-- 'ropewalklaw07.PacketBack': WHATEVER THE INPUT: true; the input reads as it did. -/
def packetBackSpec : ChangeSpec := { name := "packetBack", fn := fun _ => fun
  | [d1, d2] => { results := [.lit (.bool true)], args := [d1, d2] }
  | _ => none }
def packetBackRow : OpenClaim := { program := "ytdlamomabonkjaadoor", sum := "e30bedca5ad7bf8e46198b1750d887ed5c97b236486e6e0629027ea352ac9ea2", func := "ropewalk/ropewalklaw07.PacketBack", spec := "packetBack", unfollowed := true, recurses := true, named := ["ropewalk/crc.steps"], apart := false, laid := [("ropewalk/crc.steps", laid_ropewalk_crc_steps)] }
def PacketBackSaid : Prop := packetBackRow.holds Tryd.pinned (OpenSpec.ofChange packetBackSpec)

/-- ITS FALSE NEIGHBOUR: 'it returns false'. Refute it at one input. -/
def packetBackWrong : ChangeSpec := { name := "packetBack", fn := fun _ => fun
  | [d1, d2] => { results := [.lit (.bool false)], args := [d1, d2] }
  | _ => none }
def PacketBackWrongFalsely : Prop := packetBackRow.holds Tryd.pinned (OpenSpec.ofChange packetBackWrong)

/-- 'ropewalklaw07.PacketEncodes': WHATEVER THE INPUT: true; the input reads as it did. -/
def packetEncodesSpec : ChangeSpec := { name := "packetEncodes", fn := fun _ => fun
  | [d1, d2] => { results := [.lit (.bool true)], args := [d1, d2] }
  | _ => none }
def packetEncodesRow : OpenClaim := { program := "ytdlamomabonkjaadoor", sum := "e30bedca5ad7bf8e46198b1750d887ed5c97b236486e6e0629027ea352ac9ea2", func := "ropewalk/ropewalklaw07.PacketEncodes", spec := "packetEncodes", unfollowed := true, recurses := true, named := ["ropewalk/crc.steps"], apart := false, laid := [("ropewalk/crc.steps", laid_ropewalk_crc_steps)] }
def PacketEncodesSaid : Prop := packetEncodesRow.holds Tryd.pinned (OpenSpec.ofChange packetEncodesSpec)

/-- ITS FALSE NEIGHBOUR: 'it returns false'. Refute it at one input. -/
def packetEncodesWrong : ChangeSpec := { name := "packetEncodes", fn := fun _ => fun
  | [d1, d2] => { results := [.lit (.bool false)], args := [d1, d2] }
  | _ => none }
def PacketEncodesWrongFalsely : Prop := packetEncodesRow.holds Tryd.pinned (OpenSpec.ofChange packetEncodesWrong)

/-- 'ropewalklaw07.PacketDecodes': WHATEVER THE INPUT: true; the input reads as it did. -/
def packetDecodesSpec : ChangeSpec := { name := "packetDecodes", fn := fun _ => fun
  | [d] => { results := [.lit (.bool true)], args := [d] }
  | _ => none }
def packetDecodesRow : OpenClaim := { program := "ytdlamomabonkjaadoor", sum := "e30bedca5ad7bf8e46198b1750d887ed5c97b236486e6e0629027ea352ac9ea2", func := "ropewalk/ropewalklaw07.PacketDecodes", spec := "packetDecodes", unfollowed := true, recurses := true, named := ["ropewalk/crc.steps"], apart := false, laid := [("ropewalk/crc.steps", laid_ropewalk_crc_steps)] }
def PacketDecodesSaid : Prop := packetDecodesRow.holds Tryd.pinned (OpenSpec.ofChange packetDecodesSpec)

/-- ITS FALSE NEIGHBOUR: 'it returns false'. Refute it at one input. -/
def packetDecodesWrong : ChangeSpec := { name := "packetDecodes", fn := fun _ => fun
  | [d] => { results := [.lit (.bool false)], args := [d] }
  | _ => none }
def PacketDecodesWrongFalsely : Prop := packetDecodesRow.holds Tryd.pinned (OpenSpec.ofChange packetDecodesWrong)

/-- 'ropewalklaw07.PacketBundles': WHATEVER THE INPUT: true; the input reads as it did. -/
def packetBundlesSpec : ChangeSpec := { name := "packetBundles", fn := fun _ => fun
  | [d1, d2] => { results := [.lit (.bool true)], args := [d1, d2] }
  | _ => none }
def packetBundlesRow : OpenClaim := { program := "ytdlamomabonkjaadoor", sum := "e30bedca5ad7bf8e46198b1750d887ed5c97b236486e6e0629027ea352ac9ea2", func := "ropewalk/ropewalklaw07.PacketBundles", spec := "packetBundles", unfollowed := true, recurses := true, named := ["ropewalk/crc.steps"], apart := false, laid := [("ropewalk/crc.steps", laid_ropewalk_crc_steps)] }
def PacketBundlesSaid : Prop := packetBundlesRow.holds Tryd.pinned (OpenSpec.ofChange packetBundlesSpec)

/-- ITS FALSE NEIGHBOUR: 'it returns false'. Refute it at one input. -/
def packetBundlesWrong : ChangeSpec := { name := "packetBundles", fn := fun _ => fun
  | [d1, d2] => { results := [.lit (.bool false)], args := [d1, d2] }
  | _ => none }
def PacketBundlesWrongFalsely : Prop := packetBundlesRow.holds Tryd.pinned (OpenSpec.ofChange packetBundlesWrong)

/-- 'ropewalklaw07.PacketFew': WHATEVER THE INPUT: true; the input reads as it did. -/
def packetFewSpec : ChangeSpec := { name := "packetFew", fn := fun _ => fun
  | [d1, d2] => { results := [.lit (.bool true)], args := [d1, d2] }
  | _ => none }
def packetFewRow : OpenClaim := { program := "ytdlamomabonkjaadoor", sum := "e30bedca5ad7bf8e46198b1750d887ed5c97b236486e6e0629027ea352ac9ea2", func := "ropewalk/ropewalklaw07.PacketFew", spec := "packetFew", unfollowed := true, recurses := true, named := ["ropewalk/crc.steps"], apart := false, laid := [("ropewalk/crc.steps", laid_ropewalk_crc_steps)] }
def PacketFewSaid : Prop := packetFewRow.holds Tryd.pinned (OpenSpec.ofChange packetFewSpec)

/-- ITS FALSE NEIGHBOUR: 'it returns false'. Refute it at one input. -/
def packetFewWrong : ChangeSpec := { name := "packetFew", fn := fun _ => fun
  | [d1, d2] => { results := [.lit (.bool false)], args := [d1, d2] }
  | _ => none }
def PacketFewWrongFalsely : Prop := packetFewRow.holds Tryd.pinned (OpenSpec.ofChange packetFewWrong)

/- THE SECOND FORM. 'bulk': how many values and letters a reading holds, each counted each time it is reached (what is shared counts as often as it is met; a slice's spare places count too). A statement '..UptoSaid' is the law's where the arguments, and the package variables that the reading takes, are together of bulk at most 1048576: NARROWER than '..Said'. Prove '..Said' where nothing that the law and all that it calls make is longer than what came in: it says more and counts as full. Else prove '..UptoSaid'. A law counts once. -/
mutual
def uptoBulk {H : Type} : DataW H → Nat
  | .lit (.string bytes) => bytes.length + 1
  | .lit _ => 1
  | .nil => 1
  | .ptr d => uptoBulk d + 1
  | .slice elems spare => uptoBulkAll elems + uptoBulkAll spare + 1
  | .agg parts => uptoBulkAll parts + 1
  | .iface _ d => uptoBulk d + 1
  | .map entries => uptoBulkEntries entries + 1
  | .held _ => 1
def uptoBulkAll {H : Type} : List (DataW H) → Nat
  | [] => 0
  | d :: r => uptoBulk d + uptoBulkAll r
def uptoBulkEntries {H : Type} : List (Lit × DataW H) → Nat
  | [] => 0
  | x :: r => uptoBulkEntry x + uptoBulkEntries r
def uptoBulkEntry {H : Type} : Lit × DataW H → Nat
  | (.string bytes, d) => bytes.length + uptoBulk d + 1
  | (_, d) => uptoBulk d + 1
 end
def uptoSmall : (H : Type) → List (DataW H) → Bool := fun _ ds => decide (uptoBulkAll ds ≤ 1048576)
def OpenSpec.upto (s : _root_.Go.ChangeSpec) : _root_.Go.OpenSpec := { _root_.Go.OpenSpec.ofChange s with cond := some uptoSmall }

/-- 'ropewalklaw07.PacketOneBit', WHERE WHAT IT READS IS OF BULK AT MOST 1048576: true; the input reads as it did. -/
def packetOneBitUptoRow : OpenClaim := { program := "ytdlamomabonkjaadoor", sum := "e30bedca5ad7bf8e46198b1750d887ed5c97b236486e6e0629027ea352ac9ea2", func := "ropewalk/ropewalklaw07.PacketOneBit", spec := "packetOneBit", unfollowed := true, recurses := true, named := ["ropewalk/crc.steps"], apart := false, laid := [("ropewalk/crc.steps", laid_ropewalk_crc_steps)], narrowed := true }
def PacketOneBitUptoSaid : Prop := packetOneBitUptoRow.holds Tryd.pinned (OpenSpec.upto packetOneBitSpec)

/-- 'ropewalklaw07.PacketAgain', WHERE WHAT IT READS IS OF BULK AT MOST 1048576: true; the input reads as it did. -/
def packetAgainUptoRow : OpenClaim := { program := "ytdlamomabonkjaadoor", sum := "e30bedca5ad7bf8e46198b1750d887ed5c97b236486e6e0629027ea352ac9ea2", func := "ropewalk/ropewalklaw07.PacketAgain", spec := "packetAgain", unfollowed := true, recurses := true, named := ["ropewalk/crc.steps"], apart := false, laid := [("ropewalk/crc.steps", laid_ropewalk_crc_steps)], narrowed := true }
def PacketAgainUptoSaid : Prop := packetAgainUptoRow.holds Tryd.pinned (OpenSpec.upto packetAgainSpec)

/-- 'ropewalklaw07.PacketBack', WHERE WHAT IT READS IS OF BULK AT MOST 1048576: true; the input reads as it did. -/
def packetBackUptoRow : OpenClaim := { program := "ytdlamomabonkjaadoor", sum := "e30bedca5ad7bf8e46198b1750d887ed5c97b236486e6e0629027ea352ac9ea2", func := "ropewalk/ropewalklaw07.PacketBack", spec := "packetBack", unfollowed := true, recurses := true, named := ["ropewalk/crc.steps"], apart := false, laid := [("ropewalk/crc.steps", laid_ropewalk_crc_steps)], narrowed := true }
def PacketBackUptoSaid : Prop := packetBackUptoRow.holds Tryd.pinned (OpenSpec.upto packetBackSpec)

/-- 'ropewalklaw07.PacketEncodes', WHERE WHAT IT READS IS OF BULK AT MOST 1048576: true; the input reads as it did. -/
def packetEncodesUptoRow : OpenClaim := { program := "ytdlamomabonkjaadoor", sum := "e30bedca5ad7bf8e46198b1750d887ed5c97b236486e6e0629027ea352ac9ea2", func := "ropewalk/ropewalklaw07.PacketEncodes", spec := "packetEncodes", unfollowed := true, recurses := true, named := ["ropewalk/crc.steps"], apart := false, laid := [("ropewalk/crc.steps", laid_ropewalk_crc_steps)], narrowed := true }
def PacketEncodesUptoSaid : Prop := packetEncodesUptoRow.holds Tryd.pinned (OpenSpec.upto packetEncodesSpec)

/-- 'ropewalklaw07.PacketDecodes', WHERE WHAT IT READS IS OF BULK AT MOST 1048576: true; the input reads as it did. -/
def packetDecodesUptoRow : OpenClaim := { program := "ytdlamomabonkjaadoor", sum := "e30bedca5ad7bf8e46198b1750d887ed5c97b236486e6e0629027ea352ac9ea2", func := "ropewalk/ropewalklaw07.PacketDecodes", spec := "packetDecodes", unfollowed := true, recurses := true, named := ["ropewalk/crc.steps"], apart := false, laid := [("ropewalk/crc.steps", laid_ropewalk_crc_steps)], narrowed := true }
def PacketDecodesUptoSaid : Prop := packetDecodesUptoRow.holds Tryd.pinned (OpenSpec.upto packetDecodesSpec)

/-- 'ropewalklaw07.PacketBundles', WHERE WHAT IT READS IS OF BULK AT MOST 1048576: true; the input reads as it did. -/
def packetBundlesUptoRow : OpenClaim := { program := "ytdlamomabonkjaadoor", sum := "e30bedca5ad7bf8e46198b1750d887ed5c97b236486e6e0629027ea352ac9ea2", func := "ropewalk/ropewalklaw07.PacketBundles", spec := "packetBundles", unfollowed := true, recurses := true, named := ["ropewalk/crc.steps"], apart := false, laid := [("ropewalk/crc.steps", laid_ropewalk_crc_steps)], narrowed := true }
def PacketBundlesUptoSaid : Prop := packetBundlesUptoRow.holds Tryd.pinned (OpenSpec.upto packetBundlesSpec)

/-- 'ropewalklaw07.PacketFew', WHERE WHAT IT READS IS OF BULK AT MOST 1048576: true; the input reads as it did. -/
def packetFewUptoRow : OpenClaim := { program := "ytdlamomabonkjaadoor", sum := "e30bedca5ad7bf8e46198b1750d887ed5c97b236486e6e0629027ea352ac9ea2", func := "ropewalk/ropewalklaw07.PacketFew", spec := "packetFew", unfollowed := true, recurses := true, named := ["ropewalk/crc.steps"], apart := false, laid := [("ropewalk/crc.steps", laid_ropewalk_crc_steps)], narrowed := true }
def PacketFewUptoSaid : Prop := packetFewUptoRow.holds Tryd.pinned (OpenSpec.upto packetFewSpec)

end Rows
end Go.Proofs.YtdlamomabonkjaaDoor
