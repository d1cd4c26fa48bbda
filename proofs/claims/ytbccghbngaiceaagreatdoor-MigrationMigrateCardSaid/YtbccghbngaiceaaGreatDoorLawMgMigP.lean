/-
 PROVED: MigrationMigrate: Migrate agrees with the reference implementation for any sessions, IDs and layouts; the arguments read afterwards as before.
 Conditions: the listed package-level variables read as the program's text lays them (the card ties them); the proof reads the table of powers of ten and strconv's two errors.
-/
import Derived.Test.YtbccghbngaiceaaGreatDoorMMn21
import Derived.Test.YtbccghbngaiceaaGreatDoorMMn22
import Derived.Test.YtbccghbngaiceaaGreatDoorMMn49
set_option linter.all false
namespace Go.Proofs.YtbccghbngaiceaaGreatDoor.lawMgMig
open Go.ChangeShapes Go.WideShapes Go.ChangeAt Go.RowKit
theorem row_holds : Rows.MigrationMigrateSaid :=
 OpenClaim.holds_of_wide 3 Tryz.f3 rfl rfl rfl rfl rfl rfl rfl ⟨rfl, rfl, rfl, rfl, rfl⟩ rfl rfl rfl rfl rfl fnT Tryz.func3 closed
  (of_decide_eq_true (by kernel_rfl)) (by unfold Func.isWrapper; first | (rw [if_pos (by decide +kernel)]; kernel_rfl) | (rw [if_neg (by decide +kernel)]; exact ⟨rfl, rfl⟩))
  (fun os started H enc _ => lifted os started H enc)
theorem proved : Rows.MigrationMigrateCardSaid :=
 Claim7.holds_tied_plain_at .later [] [.data, .data, .data, .data, .sentinel, .sentinel, .pinned] true (true, "7020987bf81aef133f8dc22d6a2e433013ac65910d55ec0f8bf3f9c760e45ff1") true row_holds (fun _ h => by cases h) wfT (fun _ h => by cases h) migrationMigrate_row_tie rfl ⟨rfl, rfl⟩ mainT rfl
  (fun f fn hf hfn => by
   obtain rfl : f = 3 := Option.some.inj (fnT.symm.trans hf) |>.symm
   obtain rfl : fn = Tryz.f3 := (Option.some.inj (Tryz.func3.symm.trans hfn)).symm
   exact ⟨looksT, fun j t ht => by
    rw [Tryz.params3] at ht
    have hm : t ∈ [22, 23, 23, 25] := by simpa using Array.mem_of_getElem? ht
    have hall : ([22, 23, 23, 25].all fun u => !Tryz.prog.wantsStandIn u) = true := by kernel_rfl
    exact (show Tryz.prog.wantsStandIn t = false by simpa using List.all_eq_true.1 hall t hm)⟩)
  goesF
#print axioms proved
end Go.Proofs.YtbccghbngaiceaaGreatDoor.lawMgMig
