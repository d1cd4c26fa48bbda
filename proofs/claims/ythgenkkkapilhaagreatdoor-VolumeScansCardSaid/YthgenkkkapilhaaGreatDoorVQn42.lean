/-
  Joined: LvnD.
-/
import Derived.Test.YthgenkkkapilhaaGreatDoorVQn37
import Derived.Test.YthgenkkkapilhaaGreatDoorCards
set_option linter.all false
set_option maxRecDepth 100000
set_option maxHeartbeats 64000000
namespace Go.Proofs.YthgenkkkapilhaaGreatDoor.lawVoScans
open Go.Proofs.Tryz
section
open Go.ChangeShapes Go.WideShapes Go.ChangeAt Go.RowKit
theorem wfT:Rows.volumeScansRow.wfByText (OpenSpec.ofChange Rows.volumeScansSpec)=true:=by kernel_rfl
theorem looksT:true=prog.looks []:=by kernel_rfl
theorem goesF:false=Rows.volumeScansRow.goesBy prog:=by kernel_rfl
theorem mainT : prog.mainIs = some (true, "174266067ec6230a6e948b97ff1584906e8abc8bea5e33ca035a81317c67f444".toList) := by kernel_rfl
theorem fnT : prog.funcNamed "stele/stelelaw43.VolumeScans" = some 10 := by kernel_rfl
end
end Go.Proofs.YthgenkkkapilhaaGreatDoor.lawVoScans