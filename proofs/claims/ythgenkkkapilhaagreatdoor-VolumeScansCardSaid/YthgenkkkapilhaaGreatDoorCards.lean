/-
  DERIVED. GIVEN WITH THE SEED: THE CARDS: each row of YthgenkkkapilhaaGreatDoorRows.lean that lists a variable, with what it lists TIED to the program's text (the seventh form; the later family's looks); each row that meets fmt, with fmt's text TOLD by the authors' own Lean function (tested against real Go, not proved from fmt's source: count such statements apart). THE CARD IS WHAT COUNTS. Prove the row's statement (the work); the ties are given (YthgenkkkapilhaaGreatDoorTie.lean); close each card by the builder's one call (the guide's Derived/Test/ToyasCard.lean, 'card_holds'). Laid BY PROGRAM, IN A SANDBOX (cutbox-door.mjs). By AI agents, Wed Nov 11 2026. No macro, syntax, notation, axiom, sorry.
-/
import Derived.Test.YthgenkkkapilhaaGreatDoorRows
import GoSem.ClaimSeven
namespace Go.Proofs.YthgenkkkapilhaaGreatDoor
namespace Rows

/-- THE TIED CARD OF 'stelelaw43.VolumeFrames'. -/
def volumeFramesCard : Claim7 := { stood := { row := volumeFramesRow, standIns := [], harness := (true, "174266067ec6230a6e948b97ff1584906e8abc8bea5e33ca035a81317c67f444"), looks := true }, kinds := [], alts := [], laidByText := true, laidKinds := [.data, .data, .data, .data, .sentinel, .sentinel, .pinned], laidTests := true, laidLooks := .later }
def VolumeFramesCardSaid : Prop := Claim7.holds Tryz.pinned (.plain (OpenSpec.ofChange volumeFramesSpec)) volumeFramesCard

/-- THE TIED CARD OF 'stelelaw43.VolumeReels'. -/
def volumeReelsCard : Claim7 := { stood := { row := volumeReelsRow, standIns := [], harness := (true, "174266067ec6230a6e948b97ff1584906e8abc8bea5e33ca035a81317c67f444"), looks := true }, kinds := [], alts := [], laidByText := true, laidKinds := [.data, .data, .data, .data, .sentinel, .sentinel, .pinned], laidTests := true, laidLooks := .later }
def VolumeReelsCardSaid : Prop := Claim7.holds Tryz.pinned (.plain (OpenSpec.ofChange volumeReelsSpec)) volumeReelsCard

/-- THE TIED CARD OF 'stelelaw43.VolumeContents'. -/
def volumeContentsCard : Claim7 := { stood := { row := volumeContentsRow, standIns := [], harness := (true, "174266067ec6230a6e948b97ff1584906e8abc8bea5e33ca035a81317c67f444"), looks := true }, kinds := [], alts := [], laidByText := true, laidKinds := [.data, .data, .data, .data, .sentinel, .sentinel, .pinned], laidTests := true, laidLooks := .later }
def VolumeContentsCardSaid : Prop := Claim7.holds Tryz.pinned (.plain (OpenSpec.ofChange volumeContentsSpec)) volumeContentsCard

/-- THE TIED CARD OF 'stelelaw43.VolumeCounts'. -/
def volumeCountsCard : Claim7 := { stood := { row := volumeCountsRow, standIns := [], harness := (true, "174266067ec6230a6e948b97ff1584906e8abc8bea5e33ca035a81317c67f444"), looks := true }, kinds := [], alts := [], laidByText := true, laidKinds := [.data, .data, .data, .data, .sentinel, .sentinel, .pinned], laidTests := true, laidLooks := .later }
def VolumeCountsCardSaid : Prop := Claim7.holds Tryz.pinned (.plain (OpenSpec.ofChange volumeCountsSpec)) volumeCountsCard

/-- THE TIED CARD OF 'stelelaw43.VolumeRedundancy'. -/
def volumeRedundancyCard : Claim7 := { stood := { row := volumeRedundancyRow, standIns := [], harness := (true, "174266067ec6230a6e948b97ff1584906e8abc8bea5e33ca035a81317c67f444"), looks := true }, kinds := [], alts := [], laidByText := true, laidKinds := [.data, .data, .data, .data, .sentinel, .sentinel, .pinned], laidTests := true, laidLooks := .later }
def VolumeRedundancyCardSaid : Prop := Claim7.holds Tryz.pinned (.plain (OpenSpec.ofChange volumeRedundancySpec)) volumeRedundancyCard

/-- THE TIED CARD OF 'stelelaw43.VolumePrograms'. -/
def volumeProgramsCard : Claim7 := { stood := { row := volumeProgramsRow, standIns := [], harness := (true, "174266067ec6230a6e948b97ff1584906e8abc8bea5e33ca035a81317c67f444"), looks := true }, kinds := [], alts := [], laidByText := true, laidKinds := [.data, .data, .data, .data, .sentinel, .sentinel, .pinned], laidTests := true, laidLooks := .later }
def VolumeProgramsCardSaid : Prop := Claim7.holds Tryz.pinned (.plain (OpenSpec.ofChange volumeProgramsSpec)) volumeProgramsCard

/-- THE TIED CARD OF 'stelelaw43.VolumeSigns'. -/
def volumeSignsCard : Claim7 := { stood := { row := volumeSignsRow, standIns := [], harness := (true, "174266067ec6230a6e948b97ff1584906e8abc8bea5e33ca035a81317c67f444"), looks := true }, kinds := [], alts := [], laidByText := true, laidKinds := [.data, .data, .data, .data, .sentinel, .sentinel, .pinned], laidTests := true, laidLooks := .later }
def VolumeSignsCardSaid : Prop := Claim7.holds Tryz.pinned (.plain (OpenSpec.ofChange volumeSignsSpec)) volumeSignsCard

/-- THE TIED CARD OF 'stelelaw43.VolumeScans'. -/
def volumeScansCard : Claim7 := { stood := { row := volumeScansRow, standIns := [], harness := (true, "174266067ec6230a6e948b97ff1584906e8abc8bea5e33ca035a81317c67f444"), looks := true }, kinds := [], alts := [], laidByText := true, laidKinds := [.data, .data, .data, .data, .sentinel, .sentinel, .pinned], laidTests := true, laidLooks := .later }
def VolumeScansCardSaid : Prop := Claim7.holds Tryz.pinned (.plain (OpenSpec.ofChange volumeScansSpec)) volumeScansCard

/-- THE SECOND FORM's CARD OF 'stelelaw43.VolumeFrames'. -/
def volumeFramesUptoCard : Claim7 := { stood := { row := volumeFramesUptoRow, standIns := [], harness := (true, "174266067ec6230a6e948b97ff1584906e8abc8bea5e33ca035a81317c67f444"), looks := true }, kinds := [], alts := [], laidByText := true, laidKinds := [.data, .data, .data, .data, .sentinel, .sentinel, .pinned], laidTests := true, laidLooks := .later }
def VolumeFramesUptoCardSaid : Prop := Claim7.holds Tryz.pinned (.plain (OpenSpec.upto volumeFramesSpec)) volumeFramesUptoCard

/-- THE SECOND FORM's CARD OF 'stelelaw43.VolumeReels'. -/
def volumeReelsUptoCard : Claim7 := { stood := { row := volumeReelsUptoRow, standIns := [], harness := (true, "174266067ec6230a6e948b97ff1584906e8abc8bea5e33ca035a81317c67f444"), looks := true }, kinds := [], alts := [], laidByText := true, laidKinds := [.data, .data, .data, .data, .sentinel, .sentinel, .pinned], laidTests := true, laidLooks := .later }
def VolumeReelsUptoCardSaid : Prop := Claim7.holds Tryz.pinned (.plain (OpenSpec.upto volumeReelsSpec)) volumeReelsUptoCard

/-- THE SECOND FORM's CARD OF 'stelelaw43.VolumeContents'. -/
def volumeContentsUptoCard : Claim7 := { stood := { row := volumeContentsUptoRow, standIns := [], harness := (true, "174266067ec6230a6e948b97ff1584906e8abc8bea5e33ca035a81317c67f444"), looks := true }, kinds := [], alts := [], laidByText := true, laidKinds := [.data, .data, .data, .data, .sentinel, .sentinel, .pinned], laidTests := true, laidLooks := .later }
def VolumeContentsUptoCardSaid : Prop := Claim7.holds Tryz.pinned (.plain (OpenSpec.upto volumeContentsSpec)) volumeContentsUptoCard

/-- THE SECOND FORM's CARD OF 'stelelaw43.VolumeCounts'. -/
def volumeCountsUptoCard : Claim7 := { stood := { row := volumeCountsUptoRow, standIns := [], harness := (true, "174266067ec6230a6e948b97ff1584906e8abc8bea5e33ca035a81317c67f444"), looks := true }, kinds := [], alts := [], laidByText := true, laidKinds := [.data, .data, .data, .data, .sentinel, .sentinel, .pinned], laidTests := true, laidLooks := .later }
def VolumeCountsUptoCardSaid : Prop := Claim7.holds Tryz.pinned (.plain (OpenSpec.upto volumeCountsSpec)) volumeCountsUptoCard

/-- THE SECOND FORM's CARD OF 'stelelaw43.VolumeRedundancy'. -/
def volumeRedundancyUptoCard : Claim7 := { stood := { row := volumeRedundancyUptoRow, standIns := [], harness := (true, "174266067ec6230a6e948b97ff1584906e8abc8bea5e33ca035a81317c67f444"), looks := true }, kinds := [], alts := [], laidByText := true, laidKinds := [.data, .data, .data, .data, .sentinel, .sentinel, .pinned], laidTests := true, laidLooks := .later }
def VolumeRedundancyUptoCardSaid : Prop := Claim7.holds Tryz.pinned (.plain (OpenSpec.upto volumeRedundancySpec)) volumeRedundancyUptoCard

/-- THE SECOND FORM's CARD OF 'stelelaw43.VolumePrograms'. -/
def volumeProgramsUptoCard : Claim7 := { stood := { row := volumeProgramsUptoRow, standIns := [], harness := (true, "174266067ec6230a6e948b97ff1584906e8abc8bea5e33ca035a81317c67f444"), looks := true }, kinds := [], alts := [], laidByText := true, laidKinds := [.data, .data, .data, .data, .sentinel, .sentinel, .pinned], laidTests := true, laidLooks := .later }
def VolumeProgramsUptoCardSaid : Prop := Claim7.holds Tryz.pinned (.plain (OpenSpec.upto volumeProgramsSpec)) volumeProgramsUptoCard

/-- THE SECOND FORM's CARD OF 'stelelaw43.VolumeSigns'. -/
def volumeSignsUptoCard : Claim7 := { stood := { row := volumeSignsUptoRow, standIns := [], harness := (true, "174266067ec6230a6e948b97ff1584906e8abc8bea5e33ca035a81317c67f444"), looks := true }, kinds := [], alts := [], laidByText := true, laidKinds := [.data, .data, .data, .data, .sentinel, .sentinel, .pinned], laidTests := true, laidLooks := .later }
def VolumeSignsUptoCardSaid : Prop := Claim7.holds Tryz.pinned (.plain (OpenSpec.upto volumeSignsSpec)) volumeSignsUptoCard

/-- THE SECOND FORM's CARD OF 'stelelaw43.VolumeScans'. -/
def volumeScansUptoCard : Claim7 := { stood := { row := volumeScansUptoRow, standIns := [], harness := (true, "174266067ec6230a6e948b97ff1584906e8abc8bea5e33ca035a81317c67f444"), looks := true }, kinds := [], alts := [], laidByText := true, laidKinds := [.data, .data, .data, .data, .sentinel, .sentinel, .pinned], laidTests := true, laidLooks := .later }
def VolumeScansUptoCardSaid : Prop := Claim7.holds Tryz.pinned (.plain (OpenSpec.upto volumeScansSpec)) volumeScansUptoCard
end Rows
end Go.Proofs.YthgenkkkapilhaaGreatDoor
