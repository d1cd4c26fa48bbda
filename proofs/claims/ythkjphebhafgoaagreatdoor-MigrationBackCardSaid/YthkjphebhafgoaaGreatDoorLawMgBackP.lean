/-
 PROVED: MigrationBack: an archive that is migrated to another ID and layout, and back, is the original one, or the first migration fails and answers with an empty archive, or the original layout is no valid one; the arguments read afterwards as before.
 Conditions: the listed package-level variables read as the program's text lays them (the card ties them); the proof reads the table of powers of ten and strconv's two errors.
-/
import Derived.Test.YthkjphebhafgoaaGreatDoorMBn38
import Derived.Test.YthkjphebhafgoaaGreatDoorMBn39
import Derived.Test.YthkjphebhafgoaaGreatDoorMBn49
set_option linter.all false
namespace Go.Proofs.YthkjphebhafgoaaGreatDoor.lawMgBack
open Go.ChangeShapes Go.WideShapes Go.ChangeAt Go.RowKit
theorem row_holds : Rows.MigrationBackSaid :=
 OpenClaim.holds_of_wide 3 Tryz.f3 rfl rfl rfl rfl rfl rfl rfl ⟨rfl, rfl, rfl, rfl, rfl⟩ rfl rfl rfl rfl rfl fnT Tryz.func3 closed
  (of_decide_eq_true (by kernel_rfl)) (by unfold Func.isWrapper; first | (rw [if_pos (by decide +kernel)]; kernel_rfl) | (rw [if_neg (by decide +kernel)]; exact ⟨rfl, rfl⟩))
  (fun os started H enc _ => lifted os started H enc)
theorem proved : Rows.MigrationBackCardSaid :=
 Claim7.holds_tied_plain_at .later [] [.data, .data, .data, .data, .sentinel, .sentinel, .pinned] true (true, "ce025522b52d989b2f14f6271aed4af8077487b29dff45ddd2eb1e97f1eab1c0") true row_holds (fun _ h => by cases h) wfT (fun _ h => by cases h) migrationBack_row_tie rfl ⟨rfl, rfl⟩ mainT rfl
  (fun f fn hf hfn => by
   obtain rfl : f = 3 := Option.some.inj (fnT.symm.trans hf) |>.symm
   obtain rfl : fn = Tryz.f3 := (Option.some.inj (Tryz.func3.symm.trans hfn)).symm
   exact ⟨looksT, fun j t ht => by
    rw [Tryz.params3] at ht
    have hm : t ∈ [27, 22, 24] := by simpa using Array.mem_of_getElem? ht
    have hall : ([27, 22, 24].all fun u => !Tryz.prog.wantsStandIn u) = true := by kernel_rfl
    exact (show Tryz.prog.wantsStandIn t = false by simpa using List.all_eq_true.1 hall t hm)⟩)
  goesF
#print axioms proved
end Go.Proofs.YthkjphebhafgoaaGreatDoor.lawMgBack
