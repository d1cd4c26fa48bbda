/-
  Joined: LvgD.
-/
import Derived.Test.YtbccghbngaiceaaGreatDoorMMn19
import Derived.Test.YtbccghbngaiceaaGreatDoorCards
set_option linter.all false
set_option maxRecDepth 100000
set_option maxHeartbeats 64000000
namespace Go.Proofs.YtbccghbngaiceaaGreatDoor.lawMgMig
section
open Go.ChangeShapes Go.WideShapes Go.ChangeAt Go.RowKit
theorem wfT : Rows.migrationMigrateRow.wfByText (OpenSpec.ofChange Rows.migrationMigrateSpec) = true := by kernel_rfl
theorem looksT : true = Tryz.prog.looks [] := by kernel_rfl
theorem mainT : Tryz.prog.mainIs = some (true, "7020987bf81aef133f8dc22d6a2e433013ac65910d55ec0f8bf3f9c760e45ff1".toList) := by kernel_rfl
theorem fnT : Tryz.prog.funcNamed "stele/stelelaw48.MigrationMigrate" = some 3 := by kernel_rfl
theorem goes_none {P : Program} {f : FuncId} (h : P.funcs.any Func.goes = false) : P.goes f = false := by
 rw [Program.goes, h, Bool.and_false, Bool.or_false, List.any_eq_false]
 intro g _ hg
 cases hf : P.funcs[g]? with
 | none => rw [hf] at hg; cases hg
 | some fn =>
  rw [hf] at hg
  have h1 : fn.goes = true := hg
  obtain ⟨hi, rfl⟩ := Array.getElem?_eq_some_iff.1 hf
  exact absurd h1 (Array.any_eq_false.1 h g hi)
theorem goesN : Tryz.prog.funcs.any Func.goes = false := by kernel_rfl
theorem goes_row {P : Program} {c : OpenClaim} {n : String} {f : FuncId} (hs : c.start = .entering) (hn : c.func = n) (hf : P.funcNamed n = some f) (h : P.funcs.any Func.goes = false) : false = c.goesBy P := by
 unfold OpenClaim.goesBy Program.goesAt Program.goesFrom
 rw [hn, hf, hs]
 show false = (P.goes f || false)
 rw [goes_none h]
 rfl
theorem goesF : false = Rows.migrationMigrateRow.goesBy Tryz.prog := goes_row rfl rfl fnT goesN
end
end Go.Proofs.YtbccghbngaiceaaGreatDoor.lawMgMig
