/-
  NARROWER THAN 'FOR EVERY INPUT', by the rows' own cells (each row's printed sentence says how): CrcSums: laid · CrcParts: laid · CrcLinear: laid · CrcOwn: laid · CrcPuts: laid · CrcBursts: laid.
  DERIVED. THE GIVEN ROWS OF THIS SEAT. 6 by the template 'for every input the law returns true; each argument reads behind the call as it read before'; 0 by the template 'total and deterministic' (their statements: YtdgahdfegpkmfaaDoorTotals.lean).
  GIVEN WITH THE SEED: the statements are not yours to turn. If you find one false, say at which input.
  Laid BY PROGRAM, IN A SANDBOX (cutbox-rows.mjs): the forced cells as the released guide's own fill.sh prints them over the translation 35f9f555ed645ff8… (all of the seat's roots in one cut). By AI agents, Wed Nov 11 2026. No macro, syntax, notation, axiom, sorry.
-/
import Derived.Test.YtdgahdfegpkmfaaDoorChecked
import GoSem.Claim
import GoSem.ClaimJoined
import GoSem.ClaimMapViews
import Derived.JoinedTies
import Derived.KernelRfl
namespace Go.Proofs.YtdgahdfegpkmfaaDoor
/- THE CELL 'sum', in the pinned program and in every row, IS THE sha256 OF THE DUMP (.gsa) THAT YtdgahdfegpkmfaaDoorProg.lean LOADS. Nothing in Lean hashes anything: it is a label: what it is worth is what the hold of that sum in a sandbox is worth. -/
noncomputable def Tryd.pinned : Pinned := { name := "ytdgahdfegpkmfaadoor", sum := "35f9f555ed645ff8937a3e8ea13e64774a45281e12cfbbd6b322b330090f4da6", checked := Tryd.checked }
namespace Rows
def none {H : Type} : Left H := { results := [], args := [] }

/- WHAT THE LISTED PACKAGE-LEVEL VARIABLES READ AS WHEN THE CALL BEGINS. Each datum BY PROGRAM (the guide's laid-datum.mjs) off the statement by which the dump's own 'gosem.cut.vars' lays the variable. In a bare row this is a premise. The card (YtdgahdfegpkmfaaDoorCards.lean) ties it to the program's text. -/
def laid_ropewalk_crc_steps {H : Type} : DataW H := .agg [.lit (.int .u32 0), .lit (.int .u32 274646895), .lit (.int .u32 549293790), .lit (.int .u32 820201905), .lit (.int .u32 1098587580), .lit (.int .u32 1361435347), .lit (.int .u32 1640403810), .lit (.int .u32 1905808397), .lit (.int .u32 2197175160), .lit (.int .u32 2460548119), .lit (.int .u32 2722870694), .lit (.int .u32 2987750089), .lit (.int .u32 3280807620), .lit (.int .u32 3553878443), .lit (.int .u32 3811616794), .lit (.int .u32 4084100981)]

/-- 'ropewalklaw02.CrcSums': WHATEVER THE INPUT: true; the input reads as it did. -/
def crcSumsSpec : ChangeSpec := { name := "crcSums", fn := fun _ => fun
  | [d1, d2] => { results := [.lit (.bool true)], args := [d1, d2] }
  | _ => none }
def crcSumsRow : OpenClaim := { program := "ytdgahdfegpkmfaadoor", sum := "35f9f555ed645ff8937a3e8ea13e64774a45281e12cfbbd6b322b330090f4da6", func := "ropewalk/ropewalklaw02.CrcSums", spec := "crcSums", named := ["ropewalk/crc.steps"], apart := false, laid := [("ropewalk/crc.steps", laid_ropewalk_crc_steps)] }
def CrcSumsSaid : Prop := crcSumsRow.holds Tryd.pinned (OpenSpec.ofChange crcSumsSpec)

/-- ITS FALSE NEIGHBOUR: 'it returns false'. Refute it at one input. -/
def crcSumsWrong : ChangeSpec := { name := "crcSums", fn := fun _ => fun
  | [d1, d2] => { results := [.lit (.bool false)], args := [d1, d2] }
  | _ => none }
def CrcSumsWrongFalsely : Prop := crcSumsRow.holds Tryd.pinned (OpenSpec.ofChange crcSumsWrong)

/-- 'ropewalklaw02.CrcParts': WHATEVER THE INPUT: true; the input reads as it did. -/
def crcPartsSpec : ChangeSpec := { name := "crcParts", fn := fun _ => fun
  | [d] => { results := [.lit (.bool true)], args := [d] }
  | _ => none }
def crcPartsRow : OpenClaim := { program := "ytdgahdfegpkmfaadoor", sum := "35f9f555ed645ff8937a3e8ea13e64774a45281e12cfbbd6b322b330090f4da6", func := "ropewalk/ropewalklaw02.CrcParts", spec := "crcParts", named := ["ropewalk/crc.steps"], apart := false, laid := [("ropewalk/crc.steps", laid_ropewalk_crc_steps)] }
def CrcPartsSaid : Prop := crcPartsRow.holds Tryd.pinned (OpenSpec.ofChange crcPartsSpec)

/-- ITS FALSE NEIGHBOUR: 'it returns false'. Refute it at one input. -/
def crcPartsWrong : ChangeSpec := { name := "crcParts", fn := fun _ => fun
  | [d] => { results := [.lit (.bool false)], args := [d] }
  | _ => none }
def CrcPartsWrongFalsely : Prop := crcPartsRow.holds Tryd.pinned (OpenSpec.ofChange crcPartsWrong)

/-- 'ropewalklaw02.CrcLinear': WHATEVER THE INPUT: true; the input reads as it did. -/
def crcLinearSpec : ChangeSpec := { name := "crcLinear", fn := fun _ => fun
  | [d1, d2, d3] => { results := [.lit (.bool true)], args := [d1, d2, d3] }
  | _ => none }
def crcLinearRow : OpenClaim := { program := "ytdgahdfegpkmfaadoor", sum := "35f9f555ed645ff8937a3e8ea13e64774a45281e12cfbbd6b322b330090f4da6", func := "ropewalk/ropewalklaw02.CrcLinear", spec := "crcLinear", named := ["ropewalk/crc.steps"], apart := false, laid := [("ropewalk/crc.steps", laid_ropewalk_crc_steps)] }
def CrcLinearSaid : Prop := crcLinearRow.holds Tryd.pinned (OpenSpec.ofChange crcLinearSpec)

/-- ITS FALSE NEIGHBOUR: 'it returns false'. Refute it at one input. -/
def crcLinearWrong : ChangeSpec := { name := "crcLinear", fn := fun _ => fun
  | [d1, d2, d3] => { results := [.lit (.bool false)], args := [d1, d2, d3] }
  | _ => none }
def CrcLinearWrongFalsely : Prop := crcLinearRow.holds Tryd.pinned (OpenSpec.ofChange crcLinearWrong)

/-- 'ropewalklaw02.CrcOwn': WHATEVER THE INPUT: true; the input reads as it did. -/
def crcOwnSpec : ChangeSpec := { name := "crcOwn", fn := fun _ => fun
  | [d] => { results := [.lit (.bool true)], args := [d] }
  | _ => none }
def crcOwnRow : OpenClaim := { program := "ytdgahdfegpkmfaadoor", sum := "35f9f555ed645ff8937a3e8ea13e64774a45281e12cfbbd6b322b330090f4da6", func := "ropewalk/ropewalklaw02.CrcOwn", spec := "crcOwn", named := ["ropewalk/crc.steps"], apart := false, laid := [("ropewalk/crc.steps", laid_ropewalk_crc_steps)] }
def CrcOwnSaid : Prop := crcOwnRow.holds Tryd.pinned (OpenSpec.ofChange crcOwnSpec)

/-- ITS FALSE NEIGHBOUR: 'it returns false'. Refute it at one input. -/
def crcOwnWrong : ChangeSpec := { name := "crcOwn", fn := fun _ => fun
  | [d] => { results := [.lit (.bool false)], args := [d] }
  | _ => none }
def CrcOwnWrongFalsely : Prop := crcOwnRow.holds Tryd.pinned (OpenSpec.ofChange crcOwnWrong)

/-- 'ropewalklaw02.CrcPuts': WHATEVER THE INPUT: true; the input reads as it did. -/
def crcPutsSpec : ChangeSpec := { name := "crcPuts", fn := fun _ => fun
  | [d] => { results := [.lit (.bool true)], args := [d] }
  | _ => none }
def crcPutsRow : OpenClaim := { program := "ytdgahdfegpkmfaadoor", sum := "35f9f555ed645ff8937a3e8ea13e64774a45281e12cfbbd6b322b330090f4da6", func := "ropewalk/ropewalklaw02.CrcPuts", spec := "crcPuts", named := ["ropewalk/crc.steps"], apart := false, laid := [("ropewalk/crc.steps", laid_ropewalk_crc_steps)] }
def CrcPutsSaid : Prop := crcPutsRow.holds Tryd.pinned (OpenSpec.ofChange crcPutsSpec)

/-- ITS FALSE NEIGHBOUR: 'it returns false'. Refute it at one input. -/
def crcPutsWrong : ChangeSpec := { name := "crcPuts", fn := fun _ => fun
  | [d] => { results := [.lit (.bool false)], args := [d] }
  | _ => none }
def CrcPutsWrongFalsely : Prop := crcPutsRow.holds Tryd.pinned (OpenSpec.ofChange crcPutsWrong)

/-- 'ropewalklaw02.CrcBursts': WHATEVER THE INPUT: true; the input reads as it did. -/
def crcBurstsSpec : ChangeSpec := { name := "crcBursts", fn := fun _ => fun
  | [d1, d2, d3] => { results := [.lit (.bool true)], args := [d1, d2, d3] }
  | _ => none }
def crcBurstsRow : OpenClaim := { program := "ytdgahdfegpkmfaadoor", sum := "35f9f555ed645ff8937a3e8ea13e64774a45281e12cfbbd6b322b330090f4da6", func := "ropewalk/ropewalklaw02.CrcBursts", spec := "crcBursts", named := ["ropewalk/crc.steps"], apart := false, laid := [("ropewalk/crc.steps", laid_ropewalk_crc_steps)] }
def CrcBurstsSaid : Prop := crcBurstsRow.holds Tryd.pinned (OpenSpec.ofChange crcBurstsSpec)

/-- ITS FALSE NEIGHBOUR: 'it returns false'. Refute it at one input. -/
def crcBurstsWrong : ChangeSpec := { name := "crcBursts", fn := fun _ => fun
  | [d1, d2, d3] => { results := [.lit (.bool false)], args := [d1, d2, d3] }
  | _ => none }
def CrcBurstsWrongFalsely : Prop := crcBurstsRow.holds Tryd.pinned (OpenSpec.ofChange crcBurstsWrong)

/- THE SECOND FORM. 'bulk': how many values and letters a reading holds, each counted each time it is reached (what is shared counts as often as it is met; a slice's spare places count too). A statement '..UptoSaid' is the law's where the arguments, and the package variables that the reading takes, are together of bulk at most 1048576: NARROWER than '..Said'. Prove '..Said' where nothing that the law and all that it calls make is longer than what came in: it says more and counts as full. Else prove '..UptoSaid'. A law counts once. -/
mutual
def uptoBulk {H : Type} : DataW H → Nat
  | .lit (.string bytes) => bytes.length + 1
  | .lit _ => 1
  | .nil => 1
  | .ptr d => uptoBulk d + 1
  | .slice elems spare => uptoBulkAll elems + uptoBulkAll spare + 1
  | .agg parts => uptoBulkAll parts + 1
  | .iface _ d => uptoBulk d + 1
  | .map entries => uptoBulkEntries entries + 1
  | .held _ => 1
def uptoBulkAll {H : Type} : List (DataW H) → Nat
  | [] => 0
  | d :: r => uptoBulk d + uptoBulkAll r
def uptoBulkEntries {H : Type} : List (Lit × DataW H) → Nat
  | [] => 0
  | x :: r => uptoBulkEntry x + uptoBulkEntries r
def uptoBulkEntry {H : Type} : Lit × DataW H → Nat
  | (.string bytes, d) => bytes.length + uptoBulk d + 1
  | (_, d) => uptoBulk d + 1
 end
def uptoSmall : (H : Type) → List (DataW H) → Bool := fun _ ds => decide (uptoBulkAll ds ≤ 1048576)
def OpenSpec.upto (s : _root_.Go.ChangeSpec) : _root_.Go.OpenSpec := { _root_.Go.OpenSpec.ofChange s with cond := some uptoSmall }

/-- 'ropewalklaw02.CrcSums', WHERE WHAT IT READS IS OF BULK AT MOST 1048576: true; the input reads as it did. -/
def crcSumsUptoRow : OpenClaim := { program := "ytdgahdfegpkmfaadoor", sum := "35f9f555ed645ff8937a3e8ea13e64774a45281e12cfbbd6b322b330090f4da6", func := "ropewalk/ropewalklaw02.CrcSums", spec := "crcSums", named := ["ropewalk/crc.steps"], apart := false, laid := [("ropewalk/crc.steps", laid_ropewalk_crc_steps)], narrowed := true }
def CrcSumsUptoSaid : Prop := crcSumsUptoRow.holds Tryd.pinned (OpenSpec.upto crcSumsSpec)

/-- 'ropewalklaw02.CrcParts', WHERE WHAT IT READS IS OF BULK AT MOST 1048576: true; the input reads as it did. -/
def crcPartsUptoRow : OpenClaim := { program := "ytdgahdfegpkmfaadoor", sum := "35f9f555ed645ff8937a3e8ea13e64774a45281e12cfbbd6b322b330090f4da6", func := "ropewalk/ropewalklaw02.CrcParts", spec := "crcParts", named := ["ropewalk/crc.steps"], apart := false, laid := [("ropewalk/crc.steps", laid_ropewalk_crc_steps)], narrowed := true }
def CrcPartsUptoSaid : Prop := crcPartsUptoRow.holds Tryd.pinned (OpenSpec.upto crcPartsSpec)

/-- 'ropewalklaw02.CrcLinear', WHERE WHAT IT READS IS OF BULK AT MOST 1048576: true; the input reads as it did. -/
def crcLinearUptoRow : OpenClaim := { program := "ytdgahdfegpkmfaadoor", sum := "35f9f555ed645ff8937a3e8ea13e64774a45281e12cfbbd6b322b330090f4da6", func := "ropewalk/ropewalklaw02.CrcLinear", spec := "crcLinear", named := ["ropewalk/crc.steps"], apart := false, laid := [("ropewalk/crc.steps", laid_ropewalk_crc_steps)], narrowed := true }
def CrcLinearUptoSaid : Prop := crcLinearUptoRow.holds Tryd.pinned (OpenSpec.upto crcLinearSpec)

/-- 'ropewalklaw02.CrcOwn', WHERE WHAT IT READS IS OF BULK AT MOST 1048576: true; the input reads as it did. -/
def crcOwnUptoRow : OpenClaim := { program := "ytdgahdfegpkmfaadoor", sum := "35f9f555ed645ff8937a3e8ea13e64774a45281e12cfbbd6b322b330090f4da6", func := "ropewalk/ropewalklaw02.CrcOwn", spec := "crcOwn", named := ["ropewalk/crc.steps"], apart := false, laid := [("ropewalk/crc.steps", laid_ropewalk_crc_steps)], narrowed := true }
def CrcOwnUptoSaid : Prop := crcOwnUptoRow.holds Tryd.pinned (OpenSpec.upto crcOwnSpec)

/-- 'ropewalklaw02.CrcPuts', WHERE WHAT IT READS IS OF BULK AT MOST 1048576: true; the input reads as it did. -/
def crcPutsUptoRow : OpenClaim := { program := "ytdgahdfegpkmfaadoor", sum := "35f9f555ed645ff8937a3e8ea13e64774a45281e12cfbbd6b322b330090f4da6", func := "ropewalk/ropewalklaw02.CrcPuts", spec := "crcPuts", named := ["ropewalk/crc.steps"], apart := false, laid := [("ropewalk/crc.steps", laid_ropewalk_crc_steps)], narrowed := true }
def CrcPutsUptoSaid : Prop := crcPutsUptoRow.holds Tryd.pinned (OpenSpec.upto crcPutsSpec)

/-- 'ropewalklaw02.CrcBursts', WHERE WHAT IT READS IS OF BULK AT MOST 1048576: true; the input reads as it did. -/
def crcBurstsUptoRow : OpenClaim := { program := "ytdgahdfegpkmfaadoor", sum := "35f9f555ed645ff8937a3e8ea13e64774a45281e12cfbbd6b322b330090f4da6", func := "ropewalk/ropewalklaw02.CrcBursts", spec := "crcBursts", named := ["ropewalk/crc.steps"], apart := false, laid := [("ropewalk/crc.steps", laid_ropewalk_crc_steps)], narrowed := true }
def CrcBurstsUptoSaid : Prop := crcBurstsUptoRow.holds Tryd.pinned (OpenSpec.upto crcBurstsSpec)

end Rows
end Go.Proofs.YtdgahdfegpkmfaaDoor
