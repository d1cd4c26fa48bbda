/-
  DERIVED. GIVEN WITH THE SEED: THE CARDS: each row of YtnlnmfkmbpihhaaGreatDoorRows.lean that lists a variable, with what it lists TIED to the program's text (the seventh form; the later family's looks); each row that meets fmt, with fmt's text TOLD by the authors' own Lean function (tested against real Go, not proved from fmt's source: count such statements apart). THE CARD IS WHAT COUNTS. Prove the row's statement (the work); the ties are given (YtnlnmfkmbpihhaaGreatDoorTie.lean); close each card by the builder's one call (the guide's Derived/Test/ToyasCard.lean, 'card_holds'). Laid BY PROGRAM, IN A SANDBOX (cutbox-door.mjs). By AI agents, Wed Nov 11 2026. No macro, syntax, notation, axiom, sorry.
-/
import Derived.Test.YtnlnmfkmbpihhaaGreatDoorRows
import GoSem.ClaimSeven
namespace Go.Proofs.YtnlnmfkmbpihhaaGreatDoor
namespace Rows

/-- THE TIED CARD OF 'stelelaw14.ScanPlacement'. -/
def scanPlacementCard : Claim7 := { stood := { row := scanPlacementRow, standIns := [], harness := (true, "c54d8be03a773ee0cf0fa6b89b02f6c0b9b23a20536eb2c2217743d9ff21fa63"), looks := false }, kinds := [], alts := [], laidByText := true, laidKinds := [.data, .pinned], laidTests := true, laidLooks := .later }
def ScanPlacementCardSaid : Prop := Claim7.holds Tryz.pinned (.plain (OpenSpec.ofChange scanPlacementSpec)) scanPlacementCard

/-- THE TIED CARD OF 'stelelaw14.ScanPieces'. -/
def scanPiecesCard : Claim7 := { stood := { row := scanPiecesRow, standIns := [], harness := (true, "c54d8be03a773ee0cf0fa6b89b02f6c0b9b23a20536eb2c2217743d9ff21fa63"), looks := false }, kinds := [], alts := [], laidByText := true, laidKinds := [.data, .pinned], laidTests := true, laidLooks := .later }
def ScanPiecesCardSaid : Prop := Claim7.holds Tryz.pinned (.plain (OpenSpec.ofChange scanPiecesSpec)) scanPiecesCard

/-- THE TIED CARD OF 'stelelaw44.CollectFrames'. -/
def collectFramesCard : Claim7 := { stood := { row := collectFramesRow, standIns := [], harness := (true, "c54d8be03a773ee0cf0fa6b89b02f6c0b9b23a20536eb2c2217743d9ff21fa63"), looks := false }, kinds := [], alts := [], laidByText := true, laidKinds := [.data, .pinned], laidTests := true, laidLooks := .later }
def CollectFramesCardSaid : Prop := Claim7.holds Tryz.pinned (.plain (OpenSpec.ofChange collectFramesSpec)) collectFramesCard

/-- THE TIED CARD OF 'stelelaw44.CollectExact'. -/
def collectExactCard : Claim7 := { stood := { row := collectExactRow, standIns := [], harness := (true, "c54d8be03a773ee0cf0fa6b89b02f6c0b9b23a20536eb2c2217743d9ff21fa63"), looks := false }, kinds := [], alts := [], laidByText := true, laidKinds := [.data, .pinned], laidTests := true, laidLooks := .later }
def CollectExactCardSaid : Prop := Claim7.holds Tryz.pinned (.plain (OpenSpec.ofChange collectExactSpec)) collectExactCard

/-- THE TIED CARD OF 'stelelaw44.CollectOrder'. -/
def collectOrderCard : Claim7 := { stood := { row := collectOrderRow, standIns := [], harness := (true, "c54d8be03a773ee0cf0fa6b89b02f6c0b9b23a20536eb2c2217743d9ff21fa63"), looks := false }, kinds := [], alts := [], laidByText := true, laidKinds := [.data, .pinned], laidTests := true, laidLooks := .later }
def CollectOrderCardSaid : Prop := Claim7.holds Tryz.pinned (.plain (OpenSpec.ofChange collectOrderSpec)) collectOrderCard

/-- THE TIED CARD OF 'stelelaw44.CollectPayload'. -/
def collectPayloadCard : Claim7 := { stood := { row := collectPayloadRow, standIns := [], harness := (true, "c54d8be03a773ee0cf0fa6b89b02f6c0b9b23a20536eb2c2217743d9ff21fa63"), looks := false }, kinds := [], alts := [], laidByText := true, laidKinds := [.data, .pinned], laidTests := true, laidLooks := .later }
def CollectPayloadCardSaid : Prop := Claim7.holds Tryz.pinned (.plain (OpenSpec.ofChange collectPayloadSpec)) collectPayloadCard

/-- THE TIED CARD OF 'stelelaw44.CollectConcatenation'. -/
def collectConcatenationCard : Claim7 := { stood := { row := collectConcatenationRow, standIns := [], harness := (true, "c54d8be03a773ee0cf0fa6b89b02f6c0b9b23a20536eb2c2217743d9ff21fa63"), looks := false }, kinds := [], alts := [], laidByText := true, laidKinds := [.data, .pinned], laidTests := true, laidLooks := .later }
def CollectConcatenationCardSaid : Prop := Claim7.holds Tryz.pinned (.plain (OpenSpec.ofChange collectConcatenationSpec)) collectConcatenationCard

/-- THE TIED CARD OF 'stelelaw44.CollectUnion'. -/
def collectUnionCard : Claim7 := { stood := { row := collectUnionRow, standIns := [], harness := (true, "c54d8be03a773ee0cf0fa6b89b02f6c0b9b23a20536eb2c2217743d9ff21fa63"), looks := false }, kinds := [], alts := [], laidByText := true, laidKinds := [.data, .pinned], laidTests := true, laidLooks := .later }
def CollectUnionCardSaid : Prop := Claim7.holds Tryz.pinned (.plain (OpenSpec.ofChange collectUnionSpec)) collectUnionCard

/-- THE TIED CARD OF 'stelelaw44.CollectSessions'. -/
def collectSessionsCard : Claim7 := { stood := { row := collectSessionsRow, standIns := [], harness := (true, "c54d8be03a773ee0cf0fa6b89b02f6c0b9b23a20536eb2c2217743d9ff21fa63"), looks := false }, kinds := [], alts := [], laidByText := true, laidKinds := [.data, .pinned], laidTests := true, laidLooks := .later }
def CollectSessionsCardSaid : Prop := Claim7.holds Tryz.pinned (.plain (OpenSpec.ofChange collectSessionsSpec)) collectSessionsCard

/-- THE SECOND FORM's CARD OF 'stelelaw14.ScanPlacement'. -/
def scanPlacementUptoCard : Claim7 := { stood := { row := scanPlacementUptoRow, standIns := [], harness := (true, "c54d8be03a773ee0cf0fa6b89b02f6c0b9b23a20536eb2c2217743d9ff21fa63"), looks := false }, kinds := [], alts := [], laidByText := true, laidKinds := [.data, .pinned], laidTests := true, laidLooks := .later }
def ScanPlacementUptoCardSaid : Prop := Claim7.holds Tryz.pinned (.plain (OpenSpec.upto scanPlacementSpec)) scanPlacementUptoCard

/-- THE SECOND FORM's CARD OF 'stelelaw14.ScanPieces'. -/
def scanPiecesUptoCard : Claim7 := { stood := { row := scanPiecesUptoRow, standIns := [], harness := (true, "c54d8be03a773ee0cf0fa6b89b02f6c0b9b23a20536eb2c2217743d9ff21fa63"), looks := false }, kinds := [], alts := [], laidByText := true, laidKinds := [.data, .pinned], laidTests := true, laidLooks := .later }
def ScanPiecesUptoCardSaid : Prop := Claim7.holds Tryz.pinned (.plain (OpenSpec.upto scanPiecesSpec)) scanPiecesUptoCard

/-- THE SECOND FORM's CARD OF 'stelelaw44.CollectFrames'. -/
def collectFramesUptoCard : Claim7 := { stood := { row := collectFramesUptoRow, standIns := [], harness := (true, "c54d8be03a773ee0cf0fa6b89b02f6c0b9b23a20536eb2c2217743d9ff21fa63"), looks := false }, kinds := [], alts := [], laidByText := true, laidKinds := [.data, .pinned], laidTests := true, laidLooks := .later }
def CollectFramesUptoCardSaid : Prop := Claim7.holds Tryz.pinned (.plain (OpenSpec.upto collectFramesSpec)) collectFramesUptoCard

/-- THE SECOND FORM's CARD OF 'stelelaw44.CollectExact'. -/
def collectExactUptoCard : Claim7 := { stood := { row := collectExactUptoRow, standIns := [], harness := (true, "c54d8be03a773ee0cf0fa6b89b02f6c0b9b23a20536eb2c2217743d9ff21fa63"), looks := false }, kinds := [], alts := [], laidByText := true, laidKinds := [.data, .pinned], laidTests := true, laidLooks := .later }
def CollectExactUptoCardSaid : Prop := Claim7.holds Tryz.pinned (.plain (OpenSpec.upto collectExactSpec)) collectExactUptoCard

/-- THE SECOND FORM's CARD OF 'stelelaw44.CollectOrder'. -/
def collectOrderUptoCard : Claim7 := { stood := { row := collectOrderUptoRow, standIns := [], harness := (true, "c54d8be03a773ee0cf0fa6b89b02f6c0b9b23a20536eb2c2217743d9ff21fa63"), looks := false }, kinds := [], alts := [], laidByText := true, laidKinds := [.data, .pinned], laidTests := true, laidLooks := .later }
def CollectOrderUptoCardSaid : Prop := Claim7.holds Tryz.pinned (.plain (OpenSpec.upto collectOrderSpec)) collectOrderUptoCard

/-- THE SECOND FORM's CARD OF 'stelelaw44.CollectPayload'. -/
def collectPayloadUptoCard : Claim7 := { stood := { row := collectPayloadUptoRow, standIns := [], harness := (true, "c54d8be03a773ee0cf0fa6b89b02f6c0b9b23a20536eb2c2217743d9ff21fa63"), looks := false }, kinds := [], alts := [], laidByText := true, laidKinds := [.data, .pinned], laidTests := true, laidLooks := .later }
def CollectPayloadUptoCardSaid : Prop := Claim7.holds Tryz.pinned (.plain (OpenSpec.upto collectPayloadSpec)) collectPayloadUptoCard

/-- THE SECOND FORM's CARD OF 'stelelaw44.CollectConcatenation'. -/
def collectConcatenationUptoCard : Claim7 := { stood := { row := collectConcatenationUptoRow, standIns := [], harness := (true, "c54d8be03a773ee0cf0fa6b89b02f6c0b9b23a20536eb2c2217743d9ff21fa63"), looks := false }, kinds := [], alts := [], laidByText := true, laidKinds := [.data, .pinned], laidTests := true, laidLooks := .later }
def CollectConcatenationUptoCardSaid : Prop := Claim7.holds Tryz.pinned (.plain (OpenSpec.upto collectConcatenationSpec)) collectConcatenationUptoCard

/-- THE SECOND FORM's CARD OF 'stelelaw44.CollectUnion'. -/
def collectUnionUptoCard : Claim7 := { stood := { row := collectUnionUptoRow, standIns := [], harness := (true, "c54d8be03a773ee0cf0fa6b89b02f6c0b9b23a20536eb2c2217743d9ff21fa63"), looks := false }, kinds := [], alts := [], laidByText := true, laidKinds := [.data, .pinned], laidTests := true, laidLooks := .later }
def CollectUnionUptoCardSaid : Prop := Claim7.holds Tryz.pinned (.plain (OpenSpec.upto collectUnionSpec)) collectUnionUptoCard

/-- THE SECOND FORM's CARD OF 'stelelaw44.CollectSessions'. -/
def collectSessionsUptoCard : Claim7 := { stood := { row := collectSessionsUptoRow, standIns := [], harness := (true, "c54d8be03a773ee0cf0fa6b89b02f6c0b9b23a20536eb2c2217743d9ff21fa63"), looks := false }, kinds := [], alts := [], laidByText := true, laidKinds := [.data, .pinned], laidTests := true, laidLooks := .later }
def CollectSessionsUptoCardSaid : Prop := Claim7.holds Tryz.pinned (.plain (OpenSpec.upto collectSessionsSpec)) collectSessionsUptoCard
end Rows
end Go.Proofs.YtnlnmfkmbpihhaaGreatDoor
