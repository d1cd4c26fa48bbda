/-
 PROVED: VolumeScans: scanning the pieces of all reels of a small archive yields just the frames of all its sessions, reel by reel, without corrections; the arguments read afterwards as before.
 Conditions: the listed package-level variables read as the program's text lays them (the card ties them); the proof reads the table of powers of ten.
-/
import Derived.Test.YthgenkkkapilhaaGreatDoorVQn41
import Derived.Test.YthgenkkkapilhaaGreatDoorVQn42
import Derived.Test.YthgenkkkapilhaaGreatDoorVQn47
set_option linter.all false
namespace Go.Proofs.YthgenkkkapilhaaGreatDoor.lawVoScans
open Go.ChangeShapes Go.WideShapes Go.ChangeAt Go.RowKit
theorem row_holds:Rows.VolumeScansSaid:=
 OpenClaim.holds_of_wide 10 Tryz.f10 rfl rfl rfl rfl rfl rfl rfl ⟨rfl,rfl,rfl,rfl,rfl⟩ rfl rfl rfl rfl rfl fnT Tryz.func10 closed
  (of_decide_eq_true (by kernel_rfl)) (by unfold Func.isWrapper;first|(rw[if_pos (by decide +kernel)];kernel_rfl)|(rw[if_neg (by decide +kernel)];exact⟨rfl,rfl⟩))
  (fun os started H enc _=>lifted os started H enc)
theorem proved:Rows.VolumeScansCardSaid:=
 Claim7.holds_tied_plain_at .later [] [.data, .data, .data, .data, .sentinel, .sentinel, .pinned] true (true, "174266067ec6230a6e948b97ff1584906e8abc8bea5e33ca035a81317c67f444") true row_holds (fun _ h => by cases h) wfT (fun _ h => by cases h) volumeScans_row_tie rfl ⟨rfl, rfl⟩ mainT rfl
  (fun f fn hf hfn=>by
   obtain rfl:f=10:=Option.some.inj (fnT.symm.trans hf) |>.symm
   obtain rfl:fn=Tryz.f10:=(Option.some.inj (Tryz.func10.symm.trans hfn)).symm
   exact⟨looksT,fun j t ht=>by
    rw[Tryz.params10]at ht
    have hm:t∈[22,5]:=by simpa using Array.mem_of_getElem? ht
    have hall:([22,5].all fun u=> !Tryz.prog.wantsStandIn u)=true:=by kernel_rfl
    exact(show Tryz.prog.wantsStandIn t=false by simpa using List.all_eq_true.1 hall t hm)⟩)
  goesF
#print axioms proved
end Go.Proofs.YthgenkkkapilhaaGreatDoor.lawVoScans