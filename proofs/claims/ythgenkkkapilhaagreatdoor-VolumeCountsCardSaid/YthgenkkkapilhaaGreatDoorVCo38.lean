/-
  Joined: LvcB.
-/
import Derived.Test.YthgenkkkapilhaaGreatDoorVCo36
import Derived.Test.YthgenkkkapilhaaGreatDoorCards
set_option linter.all false
set_option maxRecDepth 100000
set_option maxHeartbeats 64000000
namespace Go.Proofs.YthgenkkkapilhaaGreatDoor.lawVoCounts
section
open Go.ChangeShapes Go.WideShapes Go.ChangeAt Go.RowKit
theorem closed:joinedFacts Tryz.prog 6 Tryz.f6 Rows.volumeCountsSpec Rows.volumeCountsRow=true:=by
 unfold joinedFacts
 simp only[Bool.and_eq_true]
 repeat' apply And.intro
 all_goals as_aux_lemma=>kernel_rfl
end
end Go.Proofs.YthgenkkkapilhaaGreatDoor.lawVoCounts
