/-
  Joined: LvmB.
-/
import Derived.Test.YthkjphebhafgoaaGreatDoorMBn28
import Derived.Test.YthkjphebhafgoaaGreatDoorCards
set_option linter.all false
set_option maxRecDepth 100000
set_option maxHeartbeats 64000000
namespace Go.Proofs.YthkjphebhafgoaaGreatDoor.lawMgBack
section
open Go.ChangeShapes Go.WideShapes Go.ChangeAt Go.RowKit
theorem closed : joinedFacts Tryz.prog 3 Tryz.f3 Rows.migrationBackSpec Rows.migrationBackRow = true := by
 unfold joinedFacts
 simp only [Bool.and_eq_true]
 repeat' apply And.intro
 all_goals as_aux_lemma => kernel_rfl
end
end Go.Proofs.YthkjphebhafgoaaGreatDoor.lawMgBack
