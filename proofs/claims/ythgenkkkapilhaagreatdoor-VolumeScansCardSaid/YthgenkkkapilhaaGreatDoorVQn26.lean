/-
  Joined: OpnA.
-/
import Derived.Test.YthgenkkkapilhaaGreatDoorVQn25
import Derived.ProofKit
import Derived.OpenShut
import Derived.LaidMore
import Derived.Lay
import Derived.Deep.Slices
import Derived.Test.YthgenkkkapilhaaGreatDoorTie
set_option linter.all false
set_option maxRecDepth 100000
set_option maxHeartbeats 64000000
namespace Go.Proofs.YthgenkkkapilhaaGreatDoor
open Go.Proofs.Tryz
section
open Go.ChangeShapes Go.WideShapes Go.ChangeAt Go.RowKit
theorem ownN:ownKnob prog.godebug=none:=by kernel_rfl
theorem laidN:laidOutB prog=true:=by kernel_rfl
theorem cellsI:prog.cellsOf 3=1:=by kernel_rfl
theorem cellsL:prog.cellsOf 24=2:=by kernel_rfl
theorem cellsS:prog.cellsOf 9=1:=by kernel_rfl
end
section
open Go.ChangeShapes Go.WideShapes Go.ChangeAt Go.RowKit Go.Deep
section
variable {H:Type} {enc:TypeId×Value->H} {w:World}
theorem nat_of_u8 {z:Int} (h:(Lit.int .u8 z).wf=true):∃n:Nat,z=n/\n<256:=by
 simp only[Lit.wf,IntKind.min,IntKind.max,IntKind.signed,IntKind.bits,Bool.and_eq_true]at h;simp at h;exact⟨z.toNat,by omega,by omega⟩
theorem open_u8 {v:Value} {d:DataW H} {p:List MemPlace} {base:Nat} (hv:Value.okWide prog w .any base 5 v) (h:DataW.Trod enc prog w 0 (fun _=>true) true 5 v d p):∃n:Nat,v=.int .u8 (n:Int)/\n<256:=by
 obtain⟨z,rfl,_,_,hw⟩:=open_int underlying5 hv h;obtain⟨n,rfl,hn⟩:=nat_of_u8 hw;exact⟨n,rfl,hn⟩
end
end
end Go.Proofs.YthgenkkkapilhaaGreatDoor