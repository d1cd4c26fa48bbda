/-
  DERIVED. GIVEN WITH THE SEED: THE CARDS: each row of YthkjphebhafgoaaGreatDoorRows.lean that lists a variable, with what it lists TIED to the program's text (the seventh form; the later family's looks); each row that meets fmt, with fmt's text TOLD by the authors' own Lean function (tested against real Go, not proved from fmt's source: count such statements apart). THE CARD IS WHAT COUNTS. Prove the row's statement (the work); the ties are given (YthkjphebhafgoaaGreatDoorTie.lean); close each card by the builder's one call (the guide's Derived/Test/ToyasCard.lean, 'card_holds'). Laid BY PROGRAM, IN A SANDBOX (cutbox-door.mjs). By AI agents, Wed Nov 11 2026. No macro, syntax, notation, axiom, sorry.
-/
import Derived.Test.YthkjphebhafgoaaGreatDoorRows
import GoSem.ClaimSeven
namespace Go.Proofs.YthkjphebhafgoaaGreatDoor
namespace Rows

/-- THE TIED CARD OF 'stelelaw48.MigrationBack'. -/
def migrationBackCard : Claim7 := { stood := { row := migrationBackRow, standIns := [], harness := (true, "ce025522b52d989b2f14f6271aed4af8077487b29dff45ddd2eb1e97f1eab1c0"), looks := true }, kinds := [], alts := [], laidByText := true, laidKinds := [.data, .data, .data, .data, .sentinel, .sentinel, .pinned], laidTests := true, laidLooks := .later }
def MigrationBackCardSaid : Prop := Claim7.holds Tryz.pinned (.plain (OpenSpec.ofChange migrationBackSpec)) migrationBackCard

/-- THE SECOND FORM's CARD OF 'stelelaw48.MigrationBack'. -/
def migrationBackUptoCard : Claim7 := { stood := { row := migrationBackUptoRow, standIns := [], harness := (true, "ce025522b52d989b2f14f6271aed4af8077487b29dff45ddd2eb1e97f1eab1c0"), looks := true }, kinds := [], alts := [], laidByText := true, laidKinds := [.data, .data, .data, .data, .sentinel, .sentinel, .pinned], laidTests := true, laidLooks := .later }
def MigrationBackUptoCardSaid : Prop := Claim7.holds Tryz.pinned (.plain (OpenSpec.upto migrationBackSpec)) migrationBackUptoCard
end Rows
end Go.Proofs.YthkjphebhafgoaaGreatDoor
