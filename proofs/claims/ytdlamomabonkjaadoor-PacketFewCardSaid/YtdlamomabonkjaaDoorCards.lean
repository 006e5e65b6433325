/-
  DERIVED. GIVEN WITH THE SEED: THE CARDS: each row of YtdlamomabonkjaaDoorRows.lean that lists a variable, with what it lists TIED to the program's text (the seventh form; the later family's looks); each row that meets fmt, with fmt's text TOLD by the authors' own Lean function (tested against real Go, not proved from fmt's source: count such statements apart). THE CARD IS WHAT COUNTS. Prove the row's statement (the work); the ties are given (YtdlamomabonkjaaDoorTie.lean); close each card by the builder's one call (the guide's Derived/Test/ToyasCard.lean, 'card_holds'). Laid BY PROGRAM, IN A SANDBOX (cutbox-door.mjs). By AI agents, Wed Nov 11 2026. No macro, syntax, notation, axiom, sorry.
-/
import Derived.Test.YtdlamomabonkjaaDoorRows
import GoSem.ClaimSeven
namespace Go.Proofs.YtdlamomabonkjaaDoor
namespace Rows

/-- THE TIED CARD OF 'ropewalklaw07.PacketOneBit'. -/
def packetOneBitCard : Claim7 := { stood := { row := packetOneBitRow, standIns := [], harness := (true, "3f101dbc5db993bf368a38e7c1219a0f6a0cf4bc4765c1f811f39b7a06e4576b"), looks := true }, kinds := [], alts := [], laidByText := true, laidKinds := [.data], laidTests := true, laidLooks := .later }
def PacketOneBitCardSaid : Prop := Claim7.holds Tryd.pinned (.plain (OpenSpec.ofChange packetOneBitSpec)) packetOneBitCard

/-- THE TIED CARD OF 'ropewalklaw07.PacketAgain'. -/
def packetAgainCard : Claim7 := { stood := { row := packetAgainRow, standIns := [], harness := (true, "3f101dbc5db993bf368a38e7c1219a0f6a0cf4bc4765c1f811f39b7a06e4576b"), looks := true }, kinds := [], alts := [], laidByText := true, laidKinds := [.data], laidTests := true, laidLooks := .later }
def PacketAgainCardSaid : Prop := Claim7.holds Tryd.pinned (.plain (OpenSpec.ofChange packetAgainSpec)) packetAgainCard

/-- THE TIED CARD OF 'ropewalklaw07.PacketBack'. -/
def packetBackCard : Claim7 := { stood := { row := packetBackRow, standIns := [], harness := (true, "3f101dbc5db993bf368a38e7c1219a0f6a0cf4bc4765c1f811f39b7a06e4576b"), looks := true }, kinds := [], alts := [], laidByText := true, laidKinds := [.data], laidTests := true, laidLooks := .later }
def PacketBackCardSaid : Prop := Claim7.holds Tryd.pinned (.plain (OpenSpec.ofChange packetBackSpec)) packetBackCard

/-- THE TIED CARD OF 'ropewalklaw07.PacketEncodes'. -/
def packetEncodesCard : Claim7 := { stood := { row := packetEncodesRow, standIns := [], harness := (true, "3f101dbc5db993bf368a38e7c1219a0f6a0cf4bc4765c1f811f39b7a06e4576b"), looks := true }, kinds := [], alts := [], laidByText := true, laidKinds := [.data], laidTests := true, laidLooks := .later }
def PacketEncodesCardSaid : Prop := Claim7.holds Tryd.pinned (.plain (OpenSpec.ofChange packetEncodesSpec)) packetEncodesCard

/-- THE TIED CARD OF 'ropewalklaw07.PacketDecodes'. -/
def packetDecodesCard : Claim7 := { stood := { row := packetDecodesRow, standIns := [], harness := (true, "3f101dbc5db993bf368a38e7c1219a0f6a0cf4bc4765c1f811f39b7a06e4576b"), looks := true }, kinds := [], alts := [], laidByText := true, laidKinds := [.data], laidTests := true, laidLooks := .later }
def PacketDecodesCardSaid : Prop := Claim7.holds Tryd.pinned (.plain (OpenSpec.ofChange packetDecodesSpec)) packetDecodesCard

/-- THE TIED CARD OF 'ropewalklaw07.PacketBundles'. -/
def packetBundlesCard : Claim7 := { stood := { row := packetBundlesRow, standIns := [], harness := (true, "3f101dbc5db993bf368a38e7c1219a0f6a0cf4bc4765c1f811f39b7a06e4576b"), looks := true }, kinds := [], alts := [], laidByText := true, laidKinds := [.data], laidTests := true, laidLooks := .later }
def PacketBundlesCardSaid : Prop := Claim7.holds Tryd.pinned (.plain (OpenSpec.ofChange packetBundlesSpec)) packetBundlesCard

/-- THE TIED CARD OF 'ropewalklaw07.PacketFew'. -/
def packetFewCard : Claim7 := { stood := { row := packetFewRow, standIns := [], harness := (true, "3f101dbc5db993bf368a38e7c1219a0f6a0cf4bc4765c1f811f39b7a06e4576b"), looks := true }, kinds := [], alts := [], laidByText := true, laidKinds := [.data], laidTests := true, laidLooks := .later }
def PacketFewCardSaid : Prop := Claim7.holds Tryd.pinned (.plain (OpenSpec.ofChange packetFewSpec)) packetFewCard

/-- THE SECOND FORM's CARD OF 'ropewalklaw07.PacketOneBit'. -/
def packetOneBitUptoCard : Claim7 := { stood := { row := packetOneBitUptoRow, standIns := [], harness := (true, "3f101dbc5db993bf368a38e7c1219a0f6a0cf4bc4765c1f811f39b7a06e4576b"), looks := true }, kinds := [], alts := [], laidByText := true, laidKinds := [.data], laidTests := true, laidLooks := .later }
def PacketOneBitUptoCardSaid : Prop := Claim7.holds Tryd.pinned (.plain (OpenSpec.upto packetOneBitSpec)) packetOneBitUptoCard

/-- THE SECOND FORM's CARD OF 'ropewalklaw07.PacketAgain'. -/
def packetAgainUptoCard : Claim7 := { stood := { row := packetAgainUptoRow, standIns := [], harness := (true, "3f101dbc5db993bf368a38e7c1219a0f6a0cf4bc4765c1f811f39b7a06e4576b"), looks := true }, kinds := [], alts := [], laidByText := true, laidKinds := [.data], laidTests := true, laidLooks := .later }
def PacketAgainUptoCardSaid : Prop := Claim7.holds Tryd.pinned (.plain (OpenSpec.upto packetAgainSpec)) packetAgainUptoCard

/-- THE SECOND FORM's CARD OF 'ropewalklaw07.PacketBack'. -/
def packetBackUptoCard : Claim7 := { stood := { row := packetBackUptoRow, standIns := [], harness := (true, "3f101dbc5db993bf368a38e7c1219a0f6a0cf4bc4765c1f811f39b7a06e4576b"), looks := true }, kinds := [], alts := [], laidByText := true, laidKinds := [.data], laidTests := true, laidLooks := .later }
def PacketBackUptoCardSaid : Prop := Claim7.holds Tryd.pinned (.plain (OpenSpec.upto packetBackSpec)) packetBackUptoCard

/-- THE SECOND FORM's CARD OF 'ropewalklaw07.PacketEncodes'. -/
def packetEncodesUptoCard : Claim7 := { stood := { row := packetEncodesUptoRow, standIns := [], harness := (true, "3f101dbc5db993bf368a38e7c1219a0f6a0cf4bc4765c1f811f39b7a06e4576b"), looks := true }, kinds := [], alts := [], laidByText := true, laidKinds := [.data], laidTests := true, laidLooks := .later }
def PacketEncodesUptoCardSaid : Prop := Claim7.holds Tryd.pinned (.plain (OpenSpec.upto packetEncodesSpec)) packetEncodesUptoCard

/-- THE SECOND FORM's CARD OF 'ropewalklaw07.PacketDecodes'. -/
def packetDecodesUptoCard : Claim7 := { stood := { row := packetDecodesUptoRow, standIns := [], harness := (true, "3f101dbc5db993bf368a38e7c1219a0f6a0cf4bc4765c1f811f39b7a06e4576b"), looks := true }, kinds := [], alts := [], laidByText := true, laidKinds := [.data], laidTests := true, laidLooks := .later }
def PacketDecodesUptoCardSaid : Prop := Claim7.holds Tryd.pinned (.plain (OpenSpec.upto packetDecodesSpec)) packetDecodesUptoCard

/-- THE SECOND FORM's CARD OF 'ropewalklaw07.PacketBundles'. -/
def packetBundlesUptoCard : Claim7 := { stood := { row := packetBundlesUptoRow, standIns := [], harness := (true, "3f101dbc5db993bf368a38e7c1219a0f6a0cf4bc4765c1f811f39b7a06e4576b"), looks := true }, kinds := [], alts := [], laidByText := true, laidKinds := [.data], laidTests := true, laidLooks := .later }
def PacketBundlesUptoCardSaid : Prop := Claim7.holds Tryd.pinned (.plain (OpenSpec.upto packetBundlesSpec)) packetBundlesUptoCard

/-- THE SECOND FORM's CARD OF 'ropewalklaw07.PacketFew'. -/
def packetFewUptoCard : Claim7 := { stood := { row := packetFewUptoRow, standIns := [], harness := (true, "3f101dbc5db993bf368a38e7c1219a0f6a0cf4bc4765c1f811f39b7a06e4576b"), looks := true }, kinds := [], alts := [], laidByText := true, laidKinds := [.data], laidTests := true, laidLooks := .later }
def PacketFewUptoCardSaid : Prop := Claim7.holds Tryd.pinned (.plain (OpenSpec.upto packetFewSpec)) packetFewUptoCard
end Rows
end Go.Proofs.YtdlamomabonkjaaDoor
