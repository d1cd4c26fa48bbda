/-
  DERIVED. GIVEN WITH THE SEED: THE CARDS: each row of YtbccghbngaiceaaGreatDoorRows.lean that lists a variable, with what it lists TIED to the program's text (the seventh form; the later family's looks); each row that meets fmt, with fmt's text TOLD by the authors' own Lean function (tested against real Go, not proved from fmt's source: count such statements apart). THE CARD IS WHAT COUNTS. Prove the row's statement (the work); the ties are given (YtbccghbngaiceaaGreatDoorTie.lean); close each card by the builder's one call (the guide's Derived/Test/ToyasCard.lean, 'card_holds'). Laid BY PROGRAM, IN A SANDBOX (cutbox-door.mjs). By AI agents, Wed Nov 11 2026. No macro, syntax, notation, axiom, sorry.
-/
import Derived.Test.YtbccghbngaiceaaGreatDoorRows
import GoSem.ClaimSeven
namespace Go.Proofs.YtbccghbngaiceaaGreatDoor
namespace Rows

/-- THE TIED CARD OF 'stelelaw48.MigrationMigrate'. -/
def migrationMigrateCard : Claim7 := { stood := { row := migrationMigrateRow, standIns := [], harness := (true, "7020987bf81aef133f8dc22d6a2e433013ac65910d55ec0f8bf3f9c760e45ff1"), looks := true }, kinds := [], alts := [], laidByText := true, laidKinds := [.data, .data, .data, .data, .sentinel, .sentinel, .pinned], laidTests := true, laidLooks := .later }
def MigrationMigrateCardSaid : Prop := Claim7.holds Tryz.pinned (.plain (OpenSpec.ofChange migrationMigrateSpec)) migrationMigrateCard

/-- THE SECOND FORM's CARD OF 'stelelaw48.MigrationMigrate'. -/
def migrationMigrateUptoCard : Claim7 := { stood := { row := migrationMigrateUptoRow, standIns := [], harness := (true, "7020987bf81aef133f8dc22d6a2e433013ac65910d55ec0f8bf3f9c760e45ff1"), looks := true }, kinds := [], alts := [], laidByText := true, laidKinds := [.data, .data, .data, .data, .sentinel, .sentinel, .pinned], laidTests := true, laidLooks := .later }
def MigrationMigrateUptoCardSaid : Prop := Claim7.holds Tryz.pinned (.plain (OpenSpec.upto migrationMigrateSpec)) migrationMigrateUptoCard
end Rows
end Go.Proofs.YtbccghbngaiceaaGreatDoor
