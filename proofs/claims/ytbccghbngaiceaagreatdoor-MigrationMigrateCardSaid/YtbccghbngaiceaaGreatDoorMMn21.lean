/-
  Joined: LvgB.
-/
import Derived.Test.YtbccghbngaiceaaGreatDoorMMn19
import Derived.Test.YtbccghbngaiceaaGreatDoorCards
set_option linter.all false
set_option maxRecDepth 100000
set_option maxHeartbeats 64000000
namespace Go.Proofs.YtbccghbngaiceaaGreatDoor.lawMgMig
section
open Go.ChangeShapes Go.WideShapes Go.ChangeAt Go.RowKit
theorem closed : joinedFacts Tryz.prog 3 Tryz.f3 Rows.migrationMigrateSpec Rows.migrationMigrateRow = true := by
 unfold joinedFacts
 simp only [Bool.and_eq_true]
 repeat' apply And.intro
 all_goals as_aux_lemma => kernel_rfl
end
end Go.Proofs.YtbccghbngaiceaaGreatDoor.lawMgMig
