/-
  Joined: LvmD.
-/
import Derived.Test.YthkjphebhafgoaaGreatDoorMBn28
import Derived.Test.YthkjphebhafgoaaGreatDoorCards
set_option linter.all false
set_option maxRecDepth 100000
set_option maxHeartbeats 64000000
namespace Go.Proofs.YthkjphebhafgoaaGreatDoor.lawMgBack
section
open Go.ChangeShapes Go.WideShapes Go.ChangeAt Go.RowKit
theorem wfT : Rows.migrationBackRow.wfByText (OpenSpec.ofChange Rows.migrationBackSpec) = true := by kernel_rfl
theorem looksT : true = Tryz.prog.looks [] := by kernel_rfl
theorem goesF : false = Rows.migrationBackRow.goesBy Tryz.prog := by kernel_rfl
theorem mainT : Tryz.prog.mainIs = some (true, "ce025522b52d989b2f14f6271aed4af8077487b29dff45ddd2eb1e97f1eab1c0".toList) := by kernel_rfl
theorem fnT : Tryz.prog.funcNamed "stele/stelelaw48.MigrationBack" = some 3 := by kernel_rfl
end
end Go.Proofs.YthkjphebhafgoaaGreatDoor.lawMgBack
