/-
  Joined: LvpD.
-/
import Derived.Test.YthgenkkkapilhaaGreatDoorVPn24
import Derived.Test.YthgenkkkapilhaaGreatDoorCards
set_option linter.all false
set_option maxRecDepth 100000
set_option maxHeartbeats 64000000
namespace Go.Proofs.YthgenkkkapilhaaGreatDoor.lawVoPrograms
open Go.Proofs.Tryz
section
open Go.ChangeShapes Go.WideShapes Go.ChangeAt Go.RowKit
theorem wfT:Rows.volumeProgramsRow.wfByText (OpenSpec.ofChange Rows.volumeProgramsSpec)=true:=by kernel_rfl
theorem looksT:true=prog.looks []:=by kernel_rfl
theorem goesF:false=Rows.volumeProgramsRow.goesBy prog:=by kernel_rfl
theorem mainT : prog.mainIs = some (true, "174266067ec6230a6e948b97ff1584906e8abc8bea5e33ca035a81317c67f444".toList) := by kernel_rfl
theorem fnT : prog.funcNamed "stele/stelelaw43.VolumePrograms" = some 8 := by kernel_rfl
end
end Go.Proofs.YthgenkkkapilhaaGreatDoor.lawVoPrograms