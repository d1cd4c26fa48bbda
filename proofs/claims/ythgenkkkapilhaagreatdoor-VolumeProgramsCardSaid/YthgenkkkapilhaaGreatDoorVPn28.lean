/-
  Joined: LvpB.
-/
import Derived.Test.YthgenkkkapilhaaGreatDoorVPn24
import Derived.Test.YthgenkkkapilhaaGreatDoorCards
set_option linter.all false
set_option maxRecDepth 100000
set_option maxHeartbeats 64000000
namespace Go.Proofs.YthgenkkkapilhaaGreatDoor.lawVoPrograms
open Go.Proofs.Tryz
section
open Go.ChangeShapes Go.WideShapes Go.ChangeAt Go.RowKit
theorem closed:joinedFacts prog 8 Tryz.f8 Rows.volumeProgramsSpec Rows.volumeProgramsRow=true:=by
 unfold joinedFacts;simp only[Bool.and_eq_true];repeat' apply And.intro
 all_goals as_aux_lemma=>kernel_rfl
end
end Go.Proofs.YthgenkkkapilhaaGreatDoor.lawVoPrograms