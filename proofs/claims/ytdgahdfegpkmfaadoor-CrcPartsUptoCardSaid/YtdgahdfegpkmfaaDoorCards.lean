/-
  DERIVED. GIVEN WITH THE SEED: THE CARDS: each row of YtdgahdfegpkmfaaDoorRows.lean that lists a variable, with what it lists TIED to the program's text (the seventh form; the later family's looks); each row that meets fmt, with fmt's text TOLD by the authors' own Lean function (tested against real Go, not proved from fmt's source: count such statements apart). THE CARD IS WHAT COUNTS. Prove the row's statement (the work); the ties are given (YtdgahdfegpkmfaaDoorTie.lean); close each card by the builder's one call (the guide's Derived/Test/ToyasCard.lean, 'card_holds'). Laid BY PROGRAM, IN A SANDBOX (cutbox-door.mjs). By AI agents, Wed Nov 11 2026. No macro, syntax, notation, axiom, sorry.
-/
import Derived.Test.YtdgahdfegpkmfaaDoorRows
import GoSem.ClaimSeven
namespace Go.Proofs.YtdgahdfegpkmfaaDoor
namespace Rows

/-- THE TIED CARD OF 'ropewalklaw02.CrcSums'. -/
def crcSumsCard : Claim7 := { stood := { row := crcSumsRow, standIns := [], harness := (true, "5c57d06f18c48ce261219f14aab9bec437c2a6c86a7b0fefa6c9c2462cdc8ca0"), looks := false }, kinds := [], alts := [], laidByText := true, laidKinds := [.data], laidTests := true, laidLooks := .later }
def CrcSumsCardSaid : Prop := Claim7.holds Tryd.pinned (.plain (OpenSpec.ofChange crcSumsSpec)) crcSumsCard

/-- THE TIED CARD OF 'ropewalklaw02.CrcParts'. -/
def crcPartsCard : Claim7 := { stood := { row := crcPartsRow, standIns := [], harness := (true, "5c57d06f18c48ce261219f14aab9bec437c2a6c86a7b0fefa6c9c2462cdc8ca0"), looks := false }, kinds := [], alts := [], laidByText := true, laidKinds := [.data], laidTests := true, laidLooks := .later }
def CrcPartsCardSaid : Prop := Claim7.holds Tryd.pinned (.plain (OpenSpec.ofChange crcPartsSpec)) crcPartsCard

/-- THE TIED CARD OF 'ropewalklaw02.CrcLinear'. -/
def crcLinearCard : Claim7 := { stood := { row := crcLinearRow, standIns := [], harness := (true, "5c57d06f18c48ce261219f14aab9bec437c2a6c86a7b0fefa6c9c2462cdc8ca0"), looks := false }, kinds := [], alts := [], laidByText := true, laidKinds := [.data], laidTests := true, laidLooks := .later }
def CrcLinearCardSaid : Prop := Claim7.holds Tryd.pinned (.plain (OpenSpec.ofChange crcLinearSpec)) crcLinearCard

/-- THE TIED CARD OF 'ropewalklaw02.CrcOwn'. -/
def crcOwnCard : Claim7 := { stood := { row := crcOwnRow, standIns := [], harness := (true, "5c57d06f18c48ce261219f14aab9bec437c2a6c86a7b0fefa6c9c2462cdc8ca0"), looks := false }, kinds := [], alts := [], laidByText := true, laidKinds := [.data], laidTests := true, laidLooks := .later }
def CrcOwnCardSaid : Prop := Claim7.holds Tryd.pinned (.plain (OpenSpec.ofChange crcOwnSpec)) crcOwnCard

/-- THE TIED CARD OF 'ropewalklaw02.CrcPuts'. -/
def crcPutsCard : Claim7 := { stood := { row := crcPutsRow, standIns := [], harness := (true, "5c57d06f18c48ce261219f14aab9bec437c2a6c86a7b0fefa6c9c2462cdc8ca0"), looks := false }, kinds := [], alts := [], laidByText := true, laidKinds := [.data], laidTests := true, laidLooks := .later }
def CrcPutsCardSaid : Prop := Claim7.holds Tryd.pinned (.plain (OpenSpec.ofChange crcPutsSpec)) crcPutsCard

/-- THE TIED CARD OF 'ropewalklaw02.CrcBursts'. -/
def crcBurstsCard : Claim7 := { stood := { row := crcBurstsRow, standIns := [], harness := (true, "5c57d06f18c48ce261219f14aab9bec437c2a6c86a7b0fefa6c9c2462cdc8ca0"), looks := false }, kinds := [], alts := [], laidByText := true, laidKinds := [.data], laidTests := true, laidLooks := .later }
def CrcBurstsCardSaid : Prop := Claim7.holds Tryd.pinned (.plain (OpenSpec.ofChange crcBurstsSpec)) crcBurstsCard

/-- THE SECOND FORM's CARD OF 'ropewalklaw02.CrcSums'. -/
def crcSumsUptoCard : Claim7 := { stood := { row := crcSumsUptoRow, standIns := [], harness := (true, "5c57d06f18c48ce261219f14aab9bec437c2a6c86a7b0fefa6c9c2462cdc8ca0"), looks := false }, kinds := [], alts := [], laidByText := true, laidKinds := [.data], laidTests := true, laidLooks := .later }
def CrcSumsUptoCardSaid : Prop := Claim7.holds Tryd.pinned (.plain (OpenSpec.upto crcSumsSpec)) crcSumsUptoCard

/-- THE SECOND FORM's CARD OF 'ropewalklaw02.CrcParts'. -/
def crcPartsUptoCard : Claim7 := { stood := { row := crcPartsUptoRow, standIns := [], harness := (true, "5c57d06f18c48ce261219f14aab9bec437c2a6c86a7b0fefa6c9c2462cdc8ca0"), looks := false }, kinds := [], alts := [], laidByText := true, laidKinds := [.data], laidTests := true, laidLooks := .later }
def CrcPartsUptoCardSaid : Prop := Claim7.holds Tryd.pinned (.plain (OpenSpec.upto crcPartsSpec)) crcPartsUptoCard

/-- THE SECOND FORM's CARD OF 'ropewalklaw02.CrcLinear'. -/
def crcLinearUptoCard : Claim7 := { stood := { row := crcLinearUptoRow, standIns := [], harness := (true, "5c57d06f18c48ce261219f14aab9bec437c2a6c86a7b0fefa6c9c2462cdc8ca0"), looks := false }, kinds := [], alts := [], laidByText := true, laidKinds := [.data], laidTests := true, laidLooks := .later }
def CrcLinearUptoCardSaid : Prop := Claim7.holds Tryd.pinned (.plain (OpenSpec.upto crcLinearSpec)) crcLinearUptoCard

/-- THE SECOND FORM's CARD OF 'ropewalklaw02.CrcOwn'. -/
def crcOwnUptoCard : Claim7 := { stood := { row := crcOwnUptoRow, standIns := [], harness := (true, "5c57d06f18c48ce261219f14aab9bec437c2a6c86a7b0fefa6c9c2462cdc8ca0"), looks := false }, kinds := [], alts := [], laidByText := true, laidKinds := [.data], laidTests := true, laidLooks := .later }
def CrcOwnUptoCardSaid : Prop := Claim7.holds Tryd.pinned (.plain (OpenSpec.upto crcOwnSpec)) crcOwnUptoCard

/-- THE SECOND FORM's CARD OF 'ropewalklaw02.CrcPuts'. -/
def crcPutsUptoCard : Claim7 := { stood := { row := crcPutsUptoRow, standIns := [], harness := (true, "5c57d06f18c48ce261219f14aab9bec437c2a6c86a7b0fefa6c9c2462cdc8ca0"), looks := false }, kinds := [], alts := [], laidByText := true, laidKinds := [.data], laidTests := true, laidLooks := .later }
def CrcPutsUptoCardSaid : Prop := Claim7.holds Tryd.pinned (.plain (OpenSpec.upto crcPutsSpec)) crcPutsUptoCard

/-- THE SECOND FORM's CARD OF 'ropewalklaw02.CrcBursts'. -/
def crcBurstsUptoCard : Claim7 := { stood := { row := crcBurstsUptoRow, standIns := [], harness := (true, "5c57d06f18c48ce261219f14aab9bec437c2a6c86a7b0fefa6c9c2462cdc8ca0"), looks := false }, kinds := [], alts := [], laidByText := true, laidKinds := [.data], laidTests := true, laidLooks := .later }
def CrcBurstsUptoCardSaid : Prop := Claim7.holds Tryd.pinned (.plain (OpenSpec.upto crcBurstsSpec)) crcBurstsUptoCard
end Rows
end Go.Proofs.YtdgahdfegpkmfaaDoor
