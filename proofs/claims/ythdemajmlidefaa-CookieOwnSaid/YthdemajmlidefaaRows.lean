/-
  No cell of these rows narrows 'for every input' (looked for: loops, veiled, ifaces, maps, wideKeys, modest, calm, conditions, laid).
  DERIVED. THE GIVEN ROWS OF THIS SEAT. 5 by the template 'for every input the law returns true; each argument reads behind the call as it read before'; 0 by the template 'total and deterministic' (their statements: YthdemajmlidefaaTotals.lean).
  GIVEN WITH THE SEED: the statements are not yours to turn. If you find one false, say at which input.
  Laid BY PROGRAM, IN A SANDBOX (cutbox-rows.mjs): the forced cells as the released guide's own fill.sh prints them over the translation ea849d286d3d109b… (all of the seat's roots in one cut). By AI agents, Wed Nov 11 2026. No macro, syntax, notation, axiom, sorry.
-/
import Derived.Test.YthdemajmlidefaaChecked
import GoSem.Claim
import GoSem.ClaimJoined
import GoSem.ClaimMapViews
import Derived.JoinedTies
import Derived.KernelRfl
namespace Go.Proofs.Ythdemajmlidefaa
/- THE CELL 'sum', in the pinned program and in every row, IS THE sha256 OF THE DUMP (.gsa) THAT YthdemajmlidefaaProg.lean LOADS. Nothing in Lean hashes anything: it is a label: what it is worth is what the hold of that sum in a sandbox is worth. -/
noncomputable def Try.pinned : Pinned := { name := "ythdemajmlidefaa", sum := "ea849d286d3d109bbac5e099134d914c2359279737495dead90328788c7160c3", checked := Try.checked }
namespace Rows
def none {H : Type} : Left H := { results := [], args := [] }

/-- 'ropewalklaw21.CookieMakes': WHATEVER THE INPUT: true; the input reads as it did. -/
def cookieMakesSpec : ChangeSpec := { name := "cookieMakes", fn := fun _ => fun
  | [d1, d2, d3, d4] => { results := [.lit (.bool true)], args := [d1, d2, d3, d4] }
  | _ => none }
def cookieMakesRow : OpenClaim := { program := "ythdemajmlidefaa", sum := "ea849d286d3d109bbac5e099134d914c2359279737495dead90328788c7160c3", func := "ropewalk/ropewalklaw21.CookieMakes", spec := "cookieMakes", unfollowed := true, recurses := true, apart := false }
def CookieMakesSaid : Prop := cookieMakesRow.holds Try.pinned (OpenSpec.ofChange cookieMakesSpec)

/-- ITS FALSE NEIGHBOUR: 'it returns false'. Refute it at one input. -/
def cookieMakesWrong : ChangeSpec := { name := "cookieMakes", fn := fun _ => fun
  | [d1, d2, d3, d4] => { results := [.lit (.bool false)], args := [d1, d2, d3, d4] }
  | _ => none }
def CookieMakesWrongFalsely : Prop := cookieMakesRow.holds Try.pinned (OpenSpec.ofChange cookieMakesWrong)

/-- 'ropewalklaw21.CookieChecks': WHATEVER THE INPUT: true; the input reads as it did. -/
def cookieChecksSpec : ChangeSpec := { name := "cookieChecks", fn := fun _ => fun
  | [d1, d2, d3] => { results := [.lit (.bool true)], args := [d1, d2, d3] }
  | _ => none }
def cookieChecksRow : OpenClaim := { program := "ythdemajmlidefaa", sum := "ea849d286d3d109bbac5e099134d914c2359279737495dead90328788c7160c3", func := "ropewalk/ropewalklaw21.CookieChecks", spec := "cookieChecks", unfollowed := true, recurses := true, apart := false }
def CookieChecksSaid : Prop := cookieChecksRow.holds Try.pinned (OpenSpec.ofChange cookieChecksSpec)

/-- ITS FALSE NEIGHBOUR: 'it returns false'. Refute it at one input. -/
def cookieChecksWrong : ChangeSpec := { name := "cookieChecks", fn := fun _ => fun
  | [d1, d2, d3] => { results := [.lit (.bool false)], args := [d1, d2, d3] }
  | _ => none }
def CookieChecksWrongFalsely : Prop := cookieChecksRow.holds Try.pinned (OpenSpec.ofChange cookieChecksWrong)

/-- 'ropewalklaw21.CookieLooks': WHATEVER THE INPUT: true; the input reads as it did. -/
def cookieLooksSpec : ChangeSpec := { name := "cookieLooks", fn := fun _ => fun
  | [d] => { results := [.lit (.bool true)], args := [d] }
  | _ => none }
def cookieLooksRow : OpenClaim := { program := "ythdemajmlidefaa", sum := "ea849d286d3d109bbac5e099134d914c2359279737495dead90328788c7160c3", func := "ropewalk/ropewalklaw21.CookieLooks", spec := "cookieLooks", unfollowed := true, recurses := true, apart := false }
def CookieLooksSaid : Prop := cookieLooksRow.holds Try.pinned (OpenSpec.ofChange cookieLooksSpec)

/-- ITS FALSE NEIGHBOUR: 'it returns false'. Refute it at one input. -/
def cookieLooksWrong : ChangeSpec := { name := "cookieLooks", fn := fun _ => fun
  | [d] => { results := [.lit (.bool false)], args := [d] }
  | _ => none }
def CookieLooksWrongFalsely : Prop := cookieLooksRow.holds Try.pinned (OpenSpec.ofChange cookieLooksWrong)

/-- 'ropewalklaw21.CookieBack': WHATEVER THE INPUT: true; the input reads as it did. -/
def cookieBackSpec : ChangeSpec := { name := "cookieBack", fn := fun _ => fun
  | [d1, d2, d3, d4, d5] => { results := [.lit (.bool true)], args := [d1, d2, d3, d4, d5] }
  | _ => none }
def cookieBackRow : OpenClaim := { program := "ythdemajmlidefaa", sum := "ea849d286d3d109bbac5e099134d914c2359279737495dead90328788c7160c3", func := "ropewalk/ropewalklaw21.CookieBack", spec := "cookieBack", unfollowed := true, recurses := true, apart := false }
def CookieBackSaid : Prop := cookieBackRow.holds Try.pinned (OpenSpec.ofChange cookieBackSpec)

/-- ITS FALSE NEIGHBOUR: 'it returns false'. Refute it at one input. -/
def cookieBackWrong : ChangeSpec := { name := "cookieBack", fn := fun _ => fun
  | [d1, d2, d3, d4, d5] => { results := [.lit (.bool false)], args := [d1, d2, d3, d4, d5] }
  | _ => none }
def CookieBackWrongFalsely : Prop := cookieBackRow.holds Try.pinned (OpenSpec.ofChange cookieBackWrong)

/-- 'ropewalklaw21.CookieOwn': WHATEVER THE INPUT: true; the input reads as it did. -/
def cookieOwnSpec : ChangeSpec := { name := "cookieOwn", fn := fun _ => fun
  | [d1, d2, d3] => { results := [.lit (.bool true)], args := [d1, d2, d3] }
  | _ => none }
def cookieOwnRow : OpenClaim := { program := "ythdemajmlidefaa", sum := "ea849d286d3d109bbac5e099134d914c2359279737495dead90328788c7160c3", func := "ropewalk/ropewalklaw21.CookieOwn", spec := "cookieOwn", unfollowed := true, recurses := true, apart := false }
def CookieOwnSaid : Prop := cookieOwnRow.holds Try.pinned (OpenSpec.ofChange cookieOwnSpec)

/-- ITS FALSE NEIGHBOUR: 'it returns false'. Refute it at one input. -/
def cookieOwnWrong : ChangeSpec := { name := "cookieOwn", fn := fun _ => fun
  | [d1, d2, d3] => { results := [.lit (.bool false)], args := [d1, d2, d3] }
  | _ => none }
def CookieOwnWrongFalsely : Prop := cookieOwnRow.holds Try.pinned (OpenSpec.ofChange cookieOwnWrong)

/- THE SECOND FORM. 'bulk': how many values and letters a reading holds, each counted each time it is reached (what is shared counts as often as it is met; a slice's spare places count too). A statement '..UptoSaid' is the law's where the arguments, and the package variables that the reading takes, are together of bulk at most 1048576: NARROWER than '..Said'. Prove '..Said' where nothing that the law and all that it calls make is longer than what came in: it says more and counts as full. Else prove '..UptoSaid'. A law counts once. -/
mutual
def uptoBulk {H : Type} : DataW H → Nat
  | .lit (.string bytes) => bytes.length + 1
  | .lit _ => 1
  | .nil => 1
  | .ptr d => uptoBulk d + 1
  | .slice elems spare => uptoBulkAll elems + uptoBulkAll spare + 1
  | .agg parts => uptoBulkAll parts + 1
  | .iface _ d => uptoBulk d + 1
  | .map entries => uptoBulkEntries entries + 1
  | .held _ => 1
def uptoBulkAll {H : Type} : List (DataW H) → Nat
  | [] => 0
  | d :: r => uptoBulk d + uptoBulkAll r
def uptoBulkEntries {H : Type} : List (Lit × DataW H) → Nat
  | [] => 0
  | x :: r => uptoBulkEntry x + uptoBulkEntries r
def uptoBulkEntry {H : Type} : Lit × DataW H → Nat
  | (.string bytes, d) => bytes.length + uptoBulk d + 1
  | (_, d) => uptoBulk d + 1
 end
def uptoSmall : (H : Type) → List (DataW H) → Bool := fun _ ds => decide (uptoBulkAll ds ≤ 1048576)
def OpenSpec.upto (s : _root_.Go.ChangeSpec) : _root_.Go.OpenSpec := { _root_.Go.OpenSpec.ofChange s with cond := some uptoSmall }

/-- 'ropewalklaw21.CookieMakes', WHERE WHAT IT READS IS OF BULK AT MOST 1048576: true; the input reads as it did. -/
def cookieMakesUptoRow : OpenClaim := { program := "ythdemajmlidefaa", sum := "ea849d286d3d109bbac5e099134d914c2359279737495dead90328788c7160c3", func := "ropewalk/ropewalklaw21.CookieMakes", spec := "cookieMakes", unfollowed := true, recurses := true, apart := false, narrowed := true }
def CookieMakesUptoSaid : Prop := cookieMakesUptoRow.holds Try.pinned (OpenSpec.upto cookieMakesSpec)

/-- 'ropewalklaw21.CookieChecks', WHERE WHAT IT READS IS OF BULK AT MOST 1048576: true; the input reads as it did. -/
def cookieChecksUptoRow : OpenClaim := { program := "ythdemajmlidefaa", sum := "ea849d286d3d109bbac5e099134d914c2359279737495dead90328788c7160c3", func := "ropewalk/ropewalklaw21.CookieChecks", spec := "cookieChecks", unfollowed := true, recurses := true, apart := false, narrowed := true }
def CookieChecksUptoSaid : Prop := cookieChecksUptoRow.holds Try.pinned (OpenSpec.upto cookieChecksSpec)

/-- 'ropewalklaw21.CookieLooks', WHERE WHAT IT READS IS OF BULK AT MOST 1048576: true; the input reads as it did. -/
def cookieLooksUptoRow : OpenClaim := { program := "ythdemajmlidefaa", sum := "ea849d286d3d109bbac5e099134d914c2359279737495dead90328788c7160c3", func := "ropewalk/ropewalklaw21.CookieLooks", spec := "cookieLooks", unfollowed := true, recurses := true, apart := false, narrowed := true }
def CookieLooksUptoSaid : Prop := cookieLooksUptoRow.holds Try.pinned (OpenSpec.upto cookieLooksSpec)

/-- 'ropewalklaw21.CookieBack', WHERE WHAT IT READS IS OF BULK AT MOST 1048576: true; the input reads as it did. -/
def cookieBackUptoRow : OpenClaim := { program := "ythdemajmlidefaa", sum := "ea849d286d3d109bbac5e099134d914c2359279737495dead90328788c7160c3", func := "ropewalk/ropewalklaw21.CookieBack", spec := "cookieBack", unfollowed := true, recurses := true, apart := false, narrowed := true }
def CookieBackUptoSaid : Prop := cookieBackUptoRow.holds Try.pinned (OpenSpec.upto cookieBackSpec)

/-- 'ropewalklaw21.CookieOwn', WHERE WHAT IT READS IS OF BULK AT MOST 1048576: true; the input reads as it did. -/
def cookieOwnUptoRow : OpenClaim := { program := "ythdemajmlidefaa", sum := "ea849d286d3d109bbac5e099134d914c2359279737495dead90328788c7160c3", func := "ropewalk/ropewalklaw21.CookieOwn", spec := "cookieOwn", unfollowed := true, recurses := true, apart := false, narrowed := true }
def CookieOwnUptoSaid : Prop := cookieOwnUptoRow.holds Try.pinned (OpenSpec.upto cookieOwnSpec)

end Rows
end Go.Proofs.Ythdemajmlidefaa
