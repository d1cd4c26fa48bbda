/-
  Joined: LvoD.
-/
import Derived.Test.YthgenkkkapilhaaGreatDoorVCn35
import Derived.Test.YthgenkkkapilhaaGreatDoorCards
set_option linter.all false
set_option maxRecDepth 100000
set_option maxHeartbeats 64000000
namespace Go.Proofs.YthgenkkkapilhaaGreatDoor.lawVoContents
section
open Go.ChangeShapes Go.WideShapes Go.ChangeAt Go.RowKit
theorem wfT:Rows.volumeContentsRow.wfByText (OpenSpec.ofChange Rows.volumeContentsSpec)=true:=by kernel_rfl
theorem looksT:true=Tryz.prog.looks []:=by kernel_rfl
theorem goesF:false=Rows.volumeContentsRow.goesBy Tryz.prog:=by kernel_rfl
theorem mainT : Tryz.prog.mainIs = some (true, "174266067ec6230a6e948b97ff1584906e8abc8bea5e33ca035a81317c67f444".toList) := by kernel_rfl
theorem fnT : Tryz.prog.funcNamed "stele/stelelaw43.VolumeContents" = some 5 := by kernel_rfl
end
end Go.Proofs.YthgenkkkapilhaaGreatDoor.lawVoContents
