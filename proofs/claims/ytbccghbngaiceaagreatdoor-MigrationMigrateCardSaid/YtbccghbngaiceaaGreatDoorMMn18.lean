/-
  Joined: VqD VqE MbB.
-/
import Derived.Test.YtbccghbngaiceaaGreatDoorMMn08
import Derived.Test.YtbccghbngaiceaaGreatDoorMMn13
set_option linter.all false
set_option maxRecDepth 100000
set_option maxHeartbeats 64000000
namespace Go.Proofs.YtbccghbngaiceaaGreatDoor
section
open Go.RowKit
theorem quad_m0 (f : Nat × Operand → Nat × Value) : (Array.map f #[(0, .const (.int .i64 0)), (1, .const (.int .i64 4)), (2, .const (.int .i64 8)), (3, .const (.int .i64 12))]).toList = [f (0, .const (.int .i64 0)), f (1, .const (.int .i64 4)), f (2, .const (.int .i64 8)), f (3, .const (.int .i64 12))] := by simp
theorem quad_b0 : Tryz.prog.built 255 [(0, .int .i64 0), (1, .int .i64 4), (2, .int .i64 8), (3, .int .i64 12)] = some #[.int .i64 0, .int .i64 4, .int .i64 8, .int .i64 12] := by kernel_rfl
theorem quad_m1 (f : Nat × Operand → Nat × Value) : (Array.map f #[(0, .const (.int .i64 1)), (1, .const (.int .i64 5)), (2, .const (.int .i64 9)), (3, .const (.int .i64 13))]).toList = [f (0, .const (.int .i64 1)), f (1, .const (.int .i64 5)), f (2, .const (.int .i64 9)), f (3, .const (.int .i64 13))] := by simp
theorem quad_b1 : Tryz.prog.built 255 [(0, .int .i64 1), (1, .int .i64 5), (2, .int .i64 9), (3, .int .i64 13)] = some #[.int .i64 1, .int .i64 5, .int .i64 9, .int .i64 13] := by kernel_rfl
theorem quad_m2 (f : Nat × Operand → Nat × Value) : (Array.map f #[(0, .const (.int .i64 2)), (1, .const (.int .i64 6)), (2, .const (.int .i64 10)), (3, .const (.int .i64 14))]).toList = [f (0, .const (.int .i64 2)), f (1, .const (.int .i64 6)), f (2, .const (.int .i64 10)), f (3, .const (.int .i64 14))] := by simp
theorem quad_b2 : Tryz.prog.built 255 [(0, .int .i64 2), (1, .int .i64 6), (2, .int .i64 10), (3, .int .i64 14)] = some #[.int .i64 2, .int .i64 6, .int .i64 10, .int .i64 14] := by kernel_rfl
theorem quad_m3 (f : Nat × Operand → Nat × Value) : (Array.map f #[(0, .const (.int .i64 3)), (1, .const (.int .i64 7)), (2, .const (.int .i64 11)), (3, .const (.int .i64 15))]).toList = [f (0, .const (.int .i64 3)), f (1, .const (.int .i64 7)), f (2, .const (.int .i64 11)), f (3, .const (.int .i64 15))] := by simp
theorem quad_b3 : Tryz.prog.built 255 [(0, .int .i64 3), (1, .int .i64 7), (2, .int .i64 11), (3, .int .i64 15)] = some #[.int .i64 3, .int .i64 7, .int .i64 11, .int .i64 15] := by kernel_rfl
theorem quad_m4 (f : Nat × Operand → Nat × Value) : (Array.map f #[(0, .const (.int .i64 0)), (1, .const (.int .i64 5)), (2, .const (.int .i64 10)), (3, .const (.int .i64 15))]).toList = [f (0, .const (.int .i64 0)), f (1, .const (.int .i64 5)), f (2, .const (.int .i64 10)), f (3, .const (.int .i64 15))] := by simp
theorem quad_b4 : Tryz.prog.built 255 [(0, .int .i64 0), (1, .int .i64 5), (2, .int .i64 10), (3, .int .i64 15)] = some #[.int .i64 0, .int .i64 5, .int .i64 10, .int .i64 15] := by kernel_rfl
theorem quad_m5 (f : Nat × Operand → Nat × Value) : (Array.map f #[(0, .const (.int .i64 1)), (1, .const (.int .i64 6)), (2, .const (.int .i64 11)), (3, .const (.int .i64 12))]).toList = [f (0, .const (.int .i64 1)), f (1, .const (.int .i64 6)), f (2, .const (.int .i64 11)), f (3, .const (.int .i64 12))] := by simp
theorem quad_b5 : Tryz.prog.built 255 [(0, .int .i64 1), (1, .int .i64 6), (2, .int .i64 11), (3, .int .i64 12)] = some #[.int .i64 1, .int .i64 6, .int .i64 11, .int .i64 12] := by kernel_rfl
theorem quad_m6 (f : Nat × Operand → Nat × Value) : (Array.map f #[(0, .const (.int .i64 2)), (1, .const (.int .i64 7)), (2, .const (.int .i64 8)), (3, .const (.int .i64 13))]).toList = [f (0, .const (.int .i64 2)), f (1, .const (.int .i64 7)), f (2, .const (.int .i64 8)), f (3, .const (.int .i64 13))] := by simp
theorem quad_b6 : Tryz.prog.built 255 [(0, .int .i64 2), (1, .int .i64 7), (2, .int .i64 8), (3, .int .i64 13)] = some #[.int .i64 2, .int .i64 7, .int .i64 8, .int .i64 13] := by kernel_rfl
theorem quad_m7 (f : Nat × Operand → Nat × Value) : (Array.map f #[(0, .const (.int .i64 3)), (1, .const (.int .i64 4)), (2, .const (.int .i64 9)), (3, .const (.int .i64 14))]).toList = [f (0, .const (.int .i64 3)), f (1, .const (.int .i64 4)), f (2, .const (.int .i64 9)), f (3, .const (.int .i64 14))] := by simp
theorem quad_b7 : Tryz.prog.built 255 [(0, .int .i64 3), (1, .int .i64 4), (2, .int .i64 9), (3, .int .i64 14)] = some #[.int .i64 3, .int .i64 4, .int .i64 9, .int .i64 14] := by kernel_rfl
theorem quad_m (f : Nat × Operand → Nat × Value) : (Array.map f #[(0, .tmp 1), (1, .tmp 2), (2, .tmp 3), (3, .tmp 4), (4, .tmp 5), (5, .tmp 6), (6, .tmp 7), (7, .tmp 8)]).toList = [f (0, .tmp 1), f (1, .tmp 2), f (2, .tmp 3), f (3, .tmp 4), f (4, .tmp 5), f (5, .tmp 6), f (6, .tmp 7), f (7, .tmp 8)] := by simp
theorem quad_b : Tryz.prog.built 256 [(0, .agg #[.int .i64 0, .int .i64 4, .int .i64 8, .int .i64 12]), (1, .agg #[.int .i64 1, .int .i64 5, .int .i64 9, .int .i64 13]), (2, .agg #[.int .i64 2, .int .i64 6, .int .i64 10, .int .i64 14]), (3, .agg #[.int .i64 3, .int .i64 7, .int .i64 11, .int .i64 15]), (4, .agg #[.int .i64 0, .int .i64 5, .int .i64 10, .int .i64 15]), (5, .agg #[.int .i64 1, .int .i64 6, .int .i64 11, .int .i64 12]), (6, .agg #[.int .i64 2, .int .i64 7, .int .i64 8, .int .i64 13]), (7, .agg #[.int .i64 3, .int .i64 4, .int .i64 9, .int .i64 14])] = some #[.int .i64 0, .int .i64 4, .int .i64 8, .int .i64 12, .int .i64 1, .int .i64 5, .int .i64 9, .int .i64 13, .int .i64 2, .int .i64 6, .int .i64 10, .int .i64 14, .int .i64 3, .int .i64 7, .int .i64 11, .int .i64 15, .int .i64 0, .int .i64 5, .int .i64 10, .int .i64 15, .int .i64 1, .int .i64 6, .int .i64 11, .int .i64 12, .int .i64 2, .int .i64 7, .int .i64 8, .int .i64 13, .int .i64 3, .int .i64 4, .int .i64 9, .int .i64 14] := by kernel_rfl
theorem bquads_any (w : World) : Calls Tryz.prog 182 #[] w fun e w' => e = .returned (.agg #[.int .i64 0, .int .i64 4, .int .i64 8, .int .i64 12, .int .i64 1, .int .i64 5, .int .i64 9, .int .i64 13, .int .i64 2, .int .i64 6, .int .i64 10, .int .i64 14, .int .i64 3, .int .i64 7, .int .i64 11, .int .i64 15, .int .i64 0, .int .i64 5, .int .i64 10, .int .i64 15, .int .i64 1, .int .i64 6, .int .i64 11, .int .i64 12, .int .i64 2, .int .i64 7, .int .i64 8, .int .i64 13, .int .i64 3, .int .i64 4, .int .i64 9, .int .i64 14]) ∧ Below w.heap.size w w' := by
 have HZ : Hid (Blk (w.alloc (.cells (List.replicate 32 (.int .i64 0)).toArray 256)) w.heap.size 256 (List.replicate 32 (.int .i64 0))) := Lib.hid (Blk.new _ _ _)
 have HB := Lib.hid ((Below.refl w.heap.size w).alloc (Nat.le_refl _) (.cells (List.replicate 32 (.int .i64 0)).toArray 256))
 go_enter Tryz.func182, Tryz.ntmps182
 go_upto_region 1 with fail
 change Code.wp _ _ _ _ (w.alloc (.cells (List.replicate 32 (.int .i64 0)).toArray 256))
 generalize w.alloc (.cells (List.replicate 32 (.int .i64 0)).toArray 256) = wa at *
 refine wp_region_lit ?_
 refine wpList_build rfl 255 #[(0, .const (.int .i64 0)), (1, .const (.int .i64 4)), (2, .const (.int .i64 8)), (3, .const (.int .i64 12))] rfl (by rw [quad_m0]; show (Tryz.prog.built 255 [(0, .int .i64 0), (1, .int .i64 4), (2, .int .i64 8), (3, .int .i64 12)]).isSome = true; rw [quad_b0]; rfl) ?_
 rw [quad_m0]
 change wpList _ _ _ _ (Act.put _ _ (.agg ((Tryz.prog.built 255 [(0, .int .i64 0), (1, .int .i64 4), (2, .int .i64 8), (3, .int .i64 12)]).getD #[]))) _
 rw [quad_b0]
 simp only [Act.put, List.setIfInBounds_toArray, List.set_cons_zero, List.set_cons_succ, Option.getD_some]
 refine wpList_build rfl 255 #[(0, .const (.int .i64 1)), (1, .const (.int .i64 5)), (2, .const (.int .i64 9)), (3, .const (.int .i64 13))] rfl (by rw [quad_m1]; show (Tryz.prog.built 255 [(0, .int .i64 1), (1, .int .i64 5), (2, .int .i64 9), (3, .int .i64 13)]).isSome = true; rw [quad_b1]; rfl) ?_
 rw [quad_m1]
 change wpList _ _ _ _ (Act.put _ _ (.agg ((Tryz.prog.built 255 [(0, .int .i64 1), (1, .int .i64 5), (2, .int .i64 9), (3, .int .i64 13)]).getD #[]))) _
 rw [quad_b1]
 simp only [Act.put, List.setIfInBounds_toArray, List.set_cons_zero, List.set_cons_succ, Option.getD_some]
 refine wpList_build rfl 255 #[(0, .const (.int .i64 2)), (1, .const (.int .i64 6)), (2, .const (.int .i64 10)), (3, .const (.int .i64 14))] rfl (by rw [quad_m2]; show (Tryz.prog.built 255 [(0, .int .i64 2), (1, .int .i64 6), (2, .int .i64 10), (3, .int .i64 14)]).isSome = true; rw [quad_b2]; rfl) ?_
 rw [quad_m2]
 change wpList _ _ _ _ (Act.put _ _ (.agg ((Tryz.prog.built 255 [(0, .int .i64 2), (1, .int .i64 6), (2, .int .i64 10), (3, .int .i64 14)]).getD #[]))) _
 rw [quad_b2]
 simp only [Act.put, List.setIfInBounds_toArray, List.set_cons_zero, List.set_cons_succ, Option.getD_some]
 refine wpList_build rfl 255 #[(0, .const (.int .i64 3)), (1, .const (.int .i64 7)), (2, .const (.int .i64 11)), (3, .const (.int .i64 15))] rfl (by rw [quad_m3]; show (Tryz.prog.built 255 [(0, .int .i64 3), (1, .int .i64 7), (2, .int .i64 11), (3, .int .i64 15)]).isSome = true; rw [quad_b3]; rfl) ?_
 rw [quad_m3]
 change wpList _ _ _ _ (Act.put _ _ (.agg ((Tryz.prog.built 255 [(0, .int .i64 3), (1, .int .i64 7), (2, .int .i64 11), (3, .int .i64 15)]).getD #[]))) _
 rw [quad_b3]
 simp only [Act.put, List.setIfInBounds_toArray, List.set_cons_zero, List.set_cons_succ, Option.getD_some]
 refine wpList_build rfl 255 #[(0, .const (.int .i64 0)), (1, .const (.int .i64 5)), (2, .const (.int .i64 10)), (3, .const (.int .i64 15))] rfl (by rw [quad_m4]; show (Tryz.prog.built 255 [(0, .int .i64 0), (1, .int .i64 5), (2, .int .i64 10), (3, .int .i64 15)]).isSome = true; rw [quad_b4]; rfl) ?_
 rw [quad_m4]
 change wpList _ _ _ _ (Act.put _ _ (.agg ((Tryz.prog.built 255 [(0, .int .i64 0), (1, .int .i64 5), (2, .int .i64 10), (3, .int .i64 15)]).getD #[]))) _
 rw [quad_b4]
 simp only [Act.put, List.setIfInBounds_toArray, List.set_cons_zero, List.set_cons_succ, Option.getD_some]
 refine wpList_build rfl 255 #[(0, .const (.int .i64 1)), (1, .const (.int .i64 6)), (2, .const (.int .i64 11)), (3, .const (.int .i64 12))] rfl (by rw [quad_m5]; show (Tryz.prog.built 255 [(0, .int .i64 1), (1, .int .i64 6), (2, .int .i64 11), (3, .int .i64 12)]).isSome = true; rw [quad_b5]; rfl) ?_
 rw [quad_m5]
 change wpList _ _ _ _ (Act.put _ _ (.agg ((Tryz.prog.built 255 [(0, .int .i64 1), (1, .int .i64 6), (2, .int .i64 11), (3, .int .i64 12)]).getD #[]))) _
 rw [quad_b5]
 simp only [Act.put, List.setIfInBounds_toArray, List.set_cons_zero, List.set_cons_succ, Option.getD_some]
 refine wpList_build rfl 255 #[(0, .const (.int .i64 2)), (1, .const (.int .i64 7)), (2, .const (.int .i64 8)), (3, .const (.int .i64 13))] rfl (by rw [quad_m6]; show (Tryz.prog.built 255 [(0, .int .i64 2), (1, .int .i64 7), (2, .int .i64 8), (3, .int .i64 13)]).isSome = true; rw [quad_b6]; rfl) ?_
 rw [quad_m6]
 change wpList _ _ _ _ (Act.put _ _ (.agg ((Tryz.prog.built 255 [(0, .int .i64 2), (1, .int .i64 7), (2, .int .i64 8), (3, .int .i64 13)]).getD #[]))) _
 rw [quad_b6]
 simp only [Act.put, List.setIfInBounds_toArray, List.set_cons_zero, List.set_cons_succ, Option.getD_some]
 refine wpList_build rfl 255 #[(0, .const (.int .i64 3)), (1, .const (.int .i64 4)), (2, .const (.int .i64 9)), (3, .const (.int .i64 14))] rfl (by rw [quad_m7]; show (Tryz.prog.built 255 [(0, .int .i64 3), (1, .int .i64 4), (2, .int .i64 9), (3, .int .i64 14)]).isSome = true; rw [quad_b7]; rfl) ?_
 rw [quad_m7]
 change wpList _ _ _ _ (Act.put _ _ (.agg ((Tryz.prog.built 255 [(0, .int .i64 3), (1, .int .i64 4), (2, .int .i64 9), (3, .int .i64 14)]).getD #[]))) _
 rw [quad_b7]
 simp only [Act.put, List.setIfInBounds_toArray, List.set_cons_zero, List.set_cons_succ, Option.getD_some]
 refine wpList_build rfl 256 #[(0, .tmp 1), (1, .tmp 2), (2, .tmp 3), (3, .tmp 4), (4, .tmp 5), (5, .tmp 6), (6, .tmp 7), (7, .tmp 8)] rfl (by rw [quad_m]; show (Tryz.prog.built 256 [(0, .agg #[.int .i64 0, .int .i64 4, .int .i64 8, .int .i64 12]), (1, .agg #[.int .i64 1, .int .i64 5, .int .i64 9, .int .i64 13]), (2, .agg #[.int .i64 2, .int .i64 6, .int .i64 10, .int .i64 14]), (3, .agg #[.int .i64 3, .int .i64 7, .int .i64 11, .int .i64 15]), (4, .agg #[.int .i64 0, .int .i64 5, .int .i64 10, .int .i64 15]), (5, .agg #[.int .i64 1, .int .i64 6, .int .i64 11, .int .i64 12]), (6, .agg #[.int .i64 2, .int .i64 7, .int .i64 8, .int .i64 13]), (7, .agg #[.int .i64 3, .int .i64 4, .int .i64 9, .int .i64 14])]).isSome = true; rw [quad_b]; rfl) ?_
 rw [quad_m]
 change wpList _ _ _ _ (Act.put _ _ (.agg ((Tryz.prog.built 256 [(0, .agg #[.int .i64 0, .int .i64 4, .int .i64 8, .int .i64 12]), (1, .agg #[.int .i64 1, .int .i64 5, .int .i64 9, .int .i64 13]), (2, .agg #[.int .i64 2, .int .i64 6, .int .i64 10, .int .i64 14]), (3, .agg #[.int .i64 3, .int .i64 7, .int .i64 11, .int .i64 15]), (4, .agg #[.int .i64 0, .int .i64 5, .int .i64 10, .int .i64 15]), (5, .agg #[.int .i64 1, .int .i64 6, .int .i64 11, .int .i64 12]), (6, .agg #[.int .i64 2, .int .i64 7, .int .i64 8, .int .i64 13]), (7, .agg #[.int .i64 3, .int .i64 4, .int .i64 9, .int .i64 14])]).getD #[]))) _
 rw [quad_b]
 simp only [Act.put, List.setIfInBounds_toArray, List.set_cons_zero, List.set_cons_succ, Option.getD_some]
 refine wpList_store_row rfl 256 (.tmp 0) (.tmp 9) rfl w.heap.size #[.int .i64 0, .int .i64 4, .int .i64 8, .int .i64 12, .int .i64 1, .int .i64 5, .int .i64 9, .int .i64 13, .int .i64 2, .int .i64 6, .int .i64 10, .int .i64 14, .int .i64 3, .int .i64 7, .int .i64 11, .int .i64 15, .int .i64 0, .int .i64 5, .int .i64 10, .int .i64 15, .int .i64 1, .int .i64 6, .int .i64 11, .int .i64 12, .int .i64 2, .int .i64 7, .int .i64 8, .int .i64 13, .int .i64 3, .int .i64 4, .int .i64 9, .int .i64 14] rfl rfl 256 _ HZ.out (by kernel_rfl) (by simp) (by simp [Value.oneCell']) ?_
 go_wp2_with fail
 refine bodyPost_ret (results_cell_row rfl _ _ w.heap.size 256 _ (0, 0) _ rfl (setRow_heap _ _ _ _ _ _ HZ.out) Tryz.underlying256 rfl (by kernel_rfl)) rfl ?_
 exact ⟨rfl, below_setRow HB.out (Nat.le_refl _) _⟩
theorem run_index_p (w : World) (cs : Array Value) (r : Nat) (hr : r < 10) {v : Value} (hv : cs[r]? = some v) : (Instr.index 253 (.agg cs) (.int .i64 (r : Int))).run Tryz.prog w = .ok v w := by
 have hn : (0 : Int) ≤ (r : Int) ∧ (r : Int) < (10 : Nat) := by omega
 have hu := Tryz.underlying253
 simp [Instr.index, run_underlying hu, asIntOf, hn, hr, hv, go_sem]
theorem run_index_q (w : World) (cs : Array Value) (r : Nat) (hr : r < 8) (hc : cs.size = 32) : (Instr.index 256 (.agg cs) (.int .i64 (r : Int))).run Tryz.prog w = .ok (.agg (cs.extract (r * 4) (r * 4 + 4))) w := by
 have hn : (0 : Int) ≤ (r : Int) ∧ (r : Int) < (8 : Nat) := by omega
 have hu := Tryz.underlying256
 have h32 : r * 4 + 4 ≤ 32 := by omega
 simp [Instr.index, run_underlying hu, asIntOf, hn, hr, hc, h32, go_sem]
def permI : Nat → Int
 | 0 => 81985529216486895
 | 1 => 16881918945140062035
 | 2 => 13312731748010193300
 | 3 => 8733003861693448440
 | 4 => 10400822202260547645
 | 5 => 3200383143768358425
 | 6 => 14204332651957162635
 | 7 => 15816291393287259690
 | 8 => 8064173457993569445
 | 9 => 11710614767857974480
 | _ => 0
theorem perm_at : ∀ r, r < 10 → (#[.int .u64 81985529216486895, .int .u64 16881918945140062035, .int .u64 13312731748010193300, .int .u64 8733003861693448440, .int .u64 10400822202260547645, .int .u64 3200383143768358425, .int .u64 14204332651957162635, .int .u64 15816291393287259690, .int .u64 8064173457993569445, .int .u64 11710614767857974480] : Array Value)[r]? = some (.int .u64 (permI r))
 | 0, _ => rfl
 | 1, _ => rfl
 | 2, _ => rfl
 | 3, _ => rfl
 | 4, _ => rfl
 | 5, _ => rfl
 | 6, _ => rfl
 | 7, _ => rfl
 | 8, _ => rfl
 | 9, _ => rfl
 | n + 10, h => absurd h (by omega)
theorem perm_xy : ∀ r : Nat, r < 10 → ∀ k : Nat, k < 8 → bits .and .u64 (permI r / 2 ^ (60 - 8 * (k : Int)).toNat) 15 = (sigN r (2 * k) : Int) ∧ bits .and .u64 (permI r / 2 ^ (56 - 8 * (k : Int)).toNat) 15 = (sigN r (2 * k + 1) : Int) := by decide +kernel
def quadsV : Value := .agg #[.int .i64 0, .int .i64 4, .int .i64 8, .int .i64 12, .int .i64 1, .int .i64 5, .int .i64 9, .int .i64 13, .int .i64 2, .int .i64 6, .int .i64 10, .int .i64 14, .int .i64 3, .int .i64 7, .int .i64 11, .int .i64 15, .int .i64 0, .int .i64 5, .int .i64 10, .int .i64 15, .int .i64 1, .int .i64 6, .int .i64 11, .int .i64 12, .int .i64 2, .int .i64 7, .int .i64 8, .int .i64 13, .int .i64 3, .int .i64 4, .int .i64 9, .int .i64 14]
theorem quads_any (w : World) : Calls Tryz.prog 182 #[] w fun e w' => e = .returned quadsV ∧ Below w.heap.size w w' := bquads_any w
theorem quad_col : ∀ k : Nat, k < 8 → (#[.int .i64 0, .int .i64 4, .int .i64 8, .int .i64 12, .int .i64 1, .int .i64 5, .int .i64 9, .int .i64 13, .int .i64 2, .int .i64 6, .int .i64 10, .int .i64 14, .int .i64 3, .int .i64 7, .int .i64 11, .int .i64 15, .int .i64 0, .int .i64 5, .int .i64 10, .int .i64 15, .int .i64 1, .int .i64 6, .int .i64 11, .int .i64 12, .int .i64 2, .int .i64 7, .int .i64 8, .int .i64 13, .int .i64 3, .int .i64 4, .int .i64 9, .int .i64 14] : Array Value).extract (k * 4) (k * 4 + 4) = #[.int .i64 ((colW k).getD 0 0 : Nat), .int .i64 ((colW k).getD 1 0 : Nat), .int .i64 ((colW k).getD 2 0 : Nat), .int .i64 ((colW k).getD 3 0 : Nat)]
 | 0, _ => rfl
 | 1, _ => rfl
 | 2, _ => rfl
 | 3, _ => rfl
 | 4, _ => rfl
 | 5, _ => rfl
 | 6, _ => rfl
 | 7, _ => rfl
 | n + 8, h => absurd h (by omega)
def Four (a b c d : Nat) : Prop := a < 16 ∧ b < 16 ∧ c < 16 ∧ d < 16 ∧ a ≠ b ∧ a ≠ c ∧ a ≠ d ∧ b ≠ c ∧ b ≠ d ∧ c ≠ d
theorem col_four : ∀ k : Nat, k < 8 → Four ((colW k).getD 0 0) ((colW k).getD 1 0) ((colW k).getD 2 0) ((colW k).getD 3 0) := by unfold Four; decide
theorem qstep (w : World) (r k : Nat) (h : r < 10) (hk : k < 8) : ∃ a b c d x y : Nat, Four a b c d ∧ x < 16 ∧ y < 16 ∧ bits .and .u64 (permI r / 2 ^ (60 - 8 * (k : Int)).toNat) 15 = (x : Int) ∧ bits .and .u64 (permI r / 2 ^ (56 - 8 * (k : Int)).toNat) 15 = (y : Int) ∧ (Instr.index 256 quadsV (.int .i64 (k : Int))).run Tryz.prog w = .ok (.agg #[.int .i64 (a : Int), .int .i64 (b : Int), .int .i64 (c : Int), .int .i64 (d : Int)]) w ∧ ∀ M V : List Int, rndW M V (8 * r + k + 1) = mixW (rndW M V (8 * r + k)) a b c d (getW M x) (getW M y) :=
 ⟨_, _, _, _, sigN r (2 * k), sigN r (2 * k + 1), col_four k hk, sigN_lt r h _ (by omega), sigN_lt r h _ (by omega), (perm_xy r h k hk).1, (perm_xy r h k hk).2, by rw [← quad_col k hk]; exact run_index_q w _ k hk rfl, fun M V => (rndW_step hk).trans rfl⟩
theorem cutK_iff : ∀ b : Nat, b < 256 → (bs cutK).contains b = okC b := by decide
theorem all_in {l : List Nat} (h : ∀ b ∈ l, b < 256) : allIn (bs cutK) l = l.all okC := by
 unfold allIn
 induction l with
 | nil => rfl
 | cons a r ih => rw [List.all_cons, List.all_cons, cutK_iff a (h a List.mem_cons_self), ih fun b hb => h b (List.mem_cons_of_mem _ hb)]
theorem cmp_of {p q : List UInt8} : Lib.compareBytes p q = if p = q then 0 else if Op.bytesLess q p = true then 1 else -1 := by
 induction p generalizing q with
 | nil => cases q <;> rfl
 | cons a x ih =>
  cases q with
  | nil => rfl
  | cons b y =>
   rw [Lib.compareBytes]
   by_cases h1 : a < b
   ·have h2 : ¬ b < a := fun h => by rw [UInt8.lt_iff_toNat_lt] at h h1; omega
    have h3 : ¬ a = b := fun h => by subst h; exact h2 h1
    rw [if_pos h1, if_neg (fun e => h3 (List.cons.inj e).1), if_neg]
    rw [Op.bytesLess, decide_eq_false h2, Bool.false_or, Bool.and_eq_true, not_and]
    intro e
    exact absurd (beq_iff_eq.1 e).symm h3
   ·rw [if_neg h1]
    by_cases h2 : b < a
    ·have h3 : ¬ a = b := fun h => by subst h; exact h1 h2
     rw [if_pos h2, if_neg (fun e => h3 (List.cons.inj e).1), if_pos]
     rw [Op.bytesLess, decide_eq_true h2, Bool.true_or]
    ·have h3 : a = b := by
      rw [UInt8.lt_iff_toNat_lt] at h1 h2
      exact UInt8.toNat_inj.1 (by omega)
     subst h3
     rw [if_neg h2, ih]
     have e1 : (a :: x = a :: y) ↔ x = y := ⟨fun e => (List.cons.inj e).2, fun e => by rw [e]⟩
     have e2 : Op.bytesLess (a :: y) (a :: x) = Op.bytesLess y x := by
      rw [Op.bytesLess, decide_eq_false h2, Bool.false_or, beq_self_eq_true, Bool.true_and]
     simp only [e1, e2]
theorem atkey_gen (w : World) (s : ByteArray) : Calls Tryz.prog 344 #[.string s] w fun e w' => e = .returned (.int .i64 (if keyB (bs s) = true then 0 else 7)) ∧ Below w.heap.size w w' := by
 obtain ⟨R, hR⟩ : ∃ R : Int, (if keyB (bs s) = true then (0 : Int) else 7) = R := ⟨_, rfl⟩
 rw [hR]
 rw [keyB, bs_len] at hR
 by_cases h0 : s.size = 0
 ·have e0 : s.toList.isEmpty = true := by
   rw [show s = ⟨#[]⟩ by apply ByteArray.ext; exact Array.eq_empty_of_size_eq_zero h0]
   exact isEmptyV0
  have hr : R = 7 := by rw [← hR, decide_eq_false (by omega)]; rfl
  subst hr
  clear hR h0
  go_enter Tryz.func344, Tryz.ntmps344
  go_wp2
  go_ret
  exact ⟨rfl, Below.refl _ _⟩
 ·have hb0 : s.toList.isEmpty = false := isEmptyV h0
  by_cases h1 : 32 < s.size
  ·have i1 : (32 : Int) < s.size := by omega
   have hr : R = 7 := by rw [← hR, decide_eq_false (by omega)]; rfl
   subst hr
   clear hR h0 h1
   go_enter Tryz.func344, Tryz.ntmps344
   go_wp2
   go_ret
   exact ⟨rfl, Below.refl _ _⟩
  ·have i1 : ¬ (32 : Int) < s.size := by omega
   have HT := Lib.hid (trim_any w s cutK (by omega) (by decide) (by decide))
   rw [all_in (bs_lt s)] at HT
   rw [decide_eq_true (by omega : 1 ≤ s.size ∧ s.size ≤ 32), Bool.true_and] at hR
   unfold cutK at HT
   cases hQ : (bs s).all okC with
   | true =>
    rw [hQ] at HT hR
    have hr : R = 0 := hR.symm
    subst hr
    clear hR h0 h1 hQ
    go_enter Tryz.func344, Tryz.ntmps344
    go_wp2_with fail
    refine HT.out.mono ?_
    rintro e1 w1 ⟨t, rfl, ht, hb⟩
    have HB := Lib.hid hb
    clear hb
    go_wp2_with fail
    go_ret
    exact ⟨rfl, HB.out⟩
   | false =>
    rw [hQ] at HT hR
    have hr : R = 7 := hR.symm
    subst hr
    clear hR h0 h1 hQ
    go_enter Tryz.func344, Tryz.ntmps344
    go_wp2_with fail
    refine HT.out.mono ?_
    rintro e1 w1 ⟨t, rfl, ht, hb⟩
    have HB := Lib.hid hb
    clear hb
    go_wp2_with fail
    go_ret
    exact ⟨rfl, HB.out⟩
def attrE (a : Atr) : Int := if keyB (bs a.k) = false then 7 else if 64 < a.v.size then 6 else 0
theorem atattr_gen (w : World) (a : Atr) : Calls Tryz.prog 273 #[.agg #[.string a.k, .string a.v]] w fun e w' => e = .returned (.int .i64 (attrE a)) ∧ Below w.heap.size w w' := by
 obtain ⟨k, v⟩ := a
 obtain ⟨R, hR⟩ : ∃ R : Int, attrE ⟨k, v⟩ = R := ⟨_, rfl⟩
 rw [hR]
 dsimp only
 rw [attrE] at hR
 dsimp only at hR
 have hK := Blk.new w 123 [.string k, .string v]
 change Blk (w.alloc (.cells #[.string k, .string v] 123)) _ _ _ at hK
 have HK := Lib.hid hK
 have HB := Lib.hid ((Below.refl w.heap.size w).alloc (Nat.le_refl _) (.cells #[.string k, .string v] 123))
 have HX := Lib.hid (fun W => atkey_gen W k)
 clear hK
 cases hQ : keyB (bs k) with
 | false =>
  rw [hQ] at HX hR
  rw [if_neg (by decide : ¬ (false = true))] at HX
  have hr : R = 7 := hR.symm
  subst hr
  clear hR hQ
  go_enter Tryz.func273, Tryz.ntmps273
  go_upto_region 1 with fail
  generalize w.alloc (.cells #[.string k, .string v] 123) = wa at *
  have c0 := HK.out.cell (i := 0) rfl
  go_wp2_with fail
  refine (HX.out _).mono ?_
  rintro e1 w1 ⟨rfl, hb⟩
  have HB1 := Lib.hid (HB.out.trans (hb.mono HB.out.size))
  clear hb c0
  go_wp2_with fail
  go_ret
  exact ⟨rfl, HB1.out⟩
 | true =>
  rw [hQ] at HX hR
  rw [if_pos rfl] at HX
  rw [if_neg (by decide : ¬ (true = false))] at hR
  clear hQ
  by_cases h64 : 64 < v.size
  ·have i2 : (64 : Int) < v.size := by omega
   rw [if_pos h64] at hR
   subst hR
   clear h64
   go_enter Tryz.func273, Tryz.ntmps273
   go_upto_region 1 with fail
   generalize w.alloc (.cells #[.string k, .string v] 123) = wa at *
   have c0 := HK.out.cell (i := 0) rfl
   go_wp2_with fail
   refine (HX.out _).mono ?_
   rintro e1 w1 ⟨rfl, hb⟩
   have HK1 := Lib.hid (HK.out.kept hb)
   have HB1 := Lib.hid (HB.out.trans (hb.mono HB.out.size))
   clear hb c0
   have c1 := HK1.out.cell (i := 1) rfl
   go_wp2_with fail
   go_ret
   exact ⟨rfl, HB1.out⟩
  ·have i2 : ¬ (64 : Int) < v.size := by omega
   rw [if_neg h64] at hR
   subst hR
   clear h64
   go_enter Tryz.func273, Tryz.ntmps273
   go_upto_region 1 with fail
   generalize w.alloc (.cells #[.string k, .string v] 123) = wa at *
   have c0 := HK.out.cell (i := 0) rfl
   go_wp2_with fail
   refine (HX.out _).mono ?_
   rintro e1 w1 ⟨rfl, hb⟩
   have HK1 := Lib.hid (HK.out.kept hb)
   have HB1 := Lib.hid (HB.out.trans (hb.mono HB.out.size))
   clear hb c0
   have c1 := HK1.out.cell (i := 1) rfl
   go_wp2_with fail
   go_ret
   exact ⟨rfl, HB1.out⟩
theorem attrsG_one {p : Option ByteArray} {a : Atr} {r : List Atr} (h : attrE a ≠ 0) : attrsG p (a :: r) = attrE a := by
 unfold attrE at h ⊢
 cases hk : keyB (bs a.k) with
 | false => rw [attrsG_key hk]; rfl
 | true =>
  rw [hk] at h
  rw [if_neg (by decide : ¬ (true = false))] at h ⊢
  by_cases h64 : 64 < a.v.size
  ·rw [attrsG_val hk h64, if_pos h64]
  ·rw [if_neg h64] at h; exact absurd rfl h
theorem attrE_0 {a : Atr} (h : attrE a = 0) : keyB (bs a.k) = true ∧ ¬ 64 < a.v.size := by
 unfold attrE at h
 cases hk : keyB (bs a.k) with
 | false => rw [hk, if_pos rfl] at h; exact absurd h (by decide)
 | true =>
  rw [hk, if_neg (by decide : ¬ (true = false))] at h
  by_cases h64 : 64 < a.v.size
  ·rw [if_pos h64] at h; exact absurd h (by decide)
  ·exact ⟨rfl, h64⟩
theorem attrsG_cmp {a : Atr} {q : ByteArray} {r : List Atr} (h : attrE a = 0) : attrsG (some q) (a :: r) = if Lib.compareBytes q.data.toList a.k.data.toList = 0 then 8 else if Lib.compareBytes q.data.toList a.k.data.toList = 1 then 14 else attrsG (some a.k) r := by
 obtain ⟨h1, h2⟩ := attrE_0 h
 rw [attrsG_next h1 h2, cmp_of, ← Lib.toList_data, ← Lib.toList_data]
 have e1 : (a.k = q) ↔ (q.toList = a.k.toList) := ⟨fun e => by rw [e], fun e => by rw [ByteArray.toList_eq, ByteArray.toList_eq] at e; exact (ByteArray.ext (Array.toList_inj.1 e)).symm⟩
 by_cases h3 : q.toList = a.k.toList
 ·rw [if_pos (e1.2 h3), if_pos h3, if_pos rfl]
 ·rw [if_neg (fun e => h3 (e1.1 e)), if_neg h3]
  cases Op.bytesLess a.k.toList q.toList with
  | true => rw [if_pos rfl, if_pos rfl, if_neg (by decide), if_pos rfl]
  | false => rfl
theorem atcheck_gen (w : World) (v : Value) (l : List Atr) (hv : SeqAt atrS w v l) : Calls Tryz.prog 178 #[v] w fun e w' => e = .returned (.int .i64 (attrsE l)) ∧ Below w.heap.size w w' := by
 have Hv := Lib.hid hv
 obtain ⟨A, c, rfl, h1, h2⟩ := hv.slice
 clear hv
 obtain ⟨R, hR⟩ : ∃ R, attrsE l = R := ⟨_, rfl⟩
 rw [hR]
 rw [attrsE] at hR
 by_cases h16 : 16 < l.length
 ·have i1 : (16 : Int) < l.length := by omega
  rw [if_pos h16] at hR
  subst hR
  go_enter Tryz.func178, Tryz.ntmps178
  go_wp2
  go_ret
  exact ⟨rfl, Below.refl _ _⟩
 ·have i1 : ¬ (16 : Int) < l.length := by omega
  rw [if_neg h16] at hR
  have HR := Lib.hid hR
  clear hR
  go_enter Tryz.func178, Tryz.ntmps178
  go_wp2
  go_loopw [11] (fun x wr => ∃ i : Nat, i ≤ l.length ∧ x = .int .i64 (i : Int) ∧ attrsG (prevK l i) (l.drop i) = R ∧ Below w.heap.size w wr) (fun x _ => l.length - (intOf x).toNat)
  case atStart => exact ⟨0, by omega, rfl, by rw [List.drop_zero]; exact HR.out, Below.refl _ _⟩
  case round =>
   obtain ⟨i, hi, rfl, hE, hB⟩ := hrel
   have HE := Lib.hid hE
   have HB := Lib.hid hB
   clear hB hE HR
   by_cases h : i < l.length
   ·have hiI : (i : Int) < l.length := by omega
    obtain ⟨a, ha⟩ : ∃ a, l[i]? = some a := ⟨_, List.getElem?_eq_getElem h⟩
    obtain ⟨_, _, e9, _, _, h4⟩ := Hv.out.below HB.out
    cases e9
    obtain ⟨b, o, cs, rfl, rfl, hc⟩ := h4 i a ha
    have c0 : wr.cell? ⟨b, o + i * 2, none⟩ = some (.string a.k) := hc 0 _ rfl
    have c1 : wr.cell? ⟨b, o + i * 2 + 1, none⟩ = some (.string a.v) := hc 1 _ rfl
    have hd : l.drop i = a :: l.drop (i + 1) := by
     obtain ⟨h1, h2⟩ := List.getElem?_eq_some_iff.1 ha
     rw [List.drop_eq_getElem_cons h1, h2]
    have HG : Hid (attrsG (prevK l i) (a :: l.drop (i + 1)) = R) := Lib.hid (by rw [← hd]; exact HE.out)
    have HN : Hid (prevK l (i + 1) = some a.k) := Lib.hid (by rw [prevK, ha]; rfl)
    have HX := Lib.hid (fun W => atattr_gen W a)
    have hT := Blk.new wr 123 [.string a.k, .string a.v]
    change Blk (wr.alloc (.cells #[.string a.k, .string a.v] 123)) _ _ _ at hT
    have HT := Lib.hid hT
    have HBt := Lib.hid (HB.out.alloc HB.out.size (.cells #[.string a.k, .string a.v] 123))
    have HBw := Lib.hid ((Below.refl wr.heap.size wr).alloc (Nat.le_refl _) (.cells #[.string a.k, .string a.v] 123))
    obtain ⟨E, hE⟩ : ∃ E, attrE a = E := ⟨_, rfl⟩
    clear hc hT hd HE
    by_cases hE0 : E = 0
    ·subst hE0
     rw [hE] at HX
     by_cases h0 : i = 0
     ·subst h0
      have HG2 : Hid (attrsG (some a.k) (l.drop 1) = R) := Lib.hid (by rw [← HG.out]; exact (attrsG_first (attrE_0 hE).1 (attrE_0 hE).2).symm)
      rw [show ((0 : Nat) : Int) = 0 from rfl]
      rw [Nat.zero_mul, Nat.add_zero] at c0 c1
      clear h4 hE HG
      go_upto_region 6 with fail
      generalize wr.alloc (.cells #[.string a.k, .string a.v] 123) = wt at *
      have d0 := HT.out.cell (i := 0) rfl
      have d1 := HT.out.cell (i := 1) rfl
      go_wp2_with fail
      refine (HX.out _).mono ?_
      rintro e2 w2 ⟨rfl, hb2⟩
      have HB2 := Lib.hid (HBt.out.trans (hb2.mono HBt.out.size))
      clear hb2
      go_wp2
      go_roundw
      case rel => exact ⟨1, by omega, by go_num, by rw [HN.out]; exact HG2.out, HB2.out⟩
      case measure => simp [intOf]; omega
     ·obtain ⟨j, hj⟩ : ∃ j, i = j + 1 := ⟨i - 1, by omega⟩
      have hjl : j < l.length := by omega
      obtain ⟨p, hp⟩ : ∃ p, l[j]? = some p := ⟨_, List.getElem?_eq_getElem hjl⟩
      have HP : Hid (prevK l i = some p.k) := Lib.hid (by rw [hj, prevK, hp]; rfl)
      have hwr : IntKind.i64.wrap ((i : Int) - 1) = (j : Int) := by rw [IntWalk.i64_in _ (by omega)]; omega
      have hwr2 : (i : Int) - 1 = j := by omega
      have hjI : (j : Int) < l.length := by omega
      have i0 : ((i : Int) == 0) = false := by rw [beq_eq_false_iff_ne]; omega
      obtain ⟨b', o', cs, e8, rfl, hd⟩ := h4 j p hp
      cases e8
      have d0 : wr.cell? ⟨b, o + j * 2, none⟩ = some (.string p.k) := hd 0 _ rfl
      have HD : Hid (∀ W, Below wr.heap.size wr W → W.cell? ⟨b, o + j * 2, none⟩ = some (.string p.k)) := Lib.hid (fun W hb => cell_below hb d0)
      have HCm := Lib.hid (fun W => Tryz.strings_Compare p.k a.k W)
      have HG2 : Hid ((if Lib.compareBytes p.k.data.toList a.k.data.toList = 0 then (8 : Int) else if Lib.compareBytes p.k.data.toList a.k.data.toList = 1 then 14 else attrsG (some a.k) (l.drop (i + 1))) = R) := Lib.hid (by rw [← HG.out, HP.out]; exact (attrsG_cmp hE).symm)
      have hrng : Lib.compareBytes p.k.data.toList a.k.data.toList = 0 ∨ Lib.compareBytes p.k.data.toList a.k.data.toList = 1 ∨ Lib.compareBytes p.k.data.toList a.k.data.toList = -1 := by
       rw [cmp_of]
       split
       ·exact .inl rfl
       ·split
        ·exact .inr (.inl rfl)
        ·exact .inr (.inr rfl)
      obtain ⟨C, hC⟩ : ∃ C, Lib.compareBytes p.k.data.toList a.k.data.toList = C := ⟨_, rfl⟩
      rw [hC] at HCm HG2 hrng
      clear hd h4 hp h0 d0 hj hjl HG HP hC hE
      go_upto_region 6 with fail
      generalize wr.alloc (.cells #[.string a.k, .string a.v] 123) = wt at *
      have d1 := HT.out.cell (i := 0) rfl
      have d2 := HT.out.cell (i := 1) rfl
      go_wp2_with fail
      refine (HX.out _).mono ?_
      rintro e2 w2 ⟨rfl, hb2⟩
      have HT2 := Lib.hid (HT.out.kept hb2)
      have HB2 := Lib.hid (HBt.out.trans (hb2.mono HBt.out.size))
      have d3 := HD.out w2 (HBw.out.trans (hb2.mono HBw.out.size))
      clear hb2 d1 d2
      have d1 := HT2.out.cell (i := 0) rfl
      rcases hrng with rfl | rfl | rfl
      ·have hr : R = 8 := by rw [← HG2.out, if_pos rfl]
       subst hr
       clear HG2
       go_upto_region 10 with fail
       go_quiet (first | (go_at_call 147; refine Calls.quiet_of_same (HCm.out _)))
       go_wp2
       go_ret
       exact ⟨rfl, blwN HB2.out _⟩
      ·have hr : R = 14 := by rw [← HG2.out, if_neg (by decide), if_pos rfl]
       subst hr
       clear HG2
       go_upto_region 10 with fail
       go_quiet (first | (go_at_call 147; refine Calls.quiet_of_same (HCm.out _)))
       go_wp2
       go_ret
       exact ⟨rfl, blwN HB2.out _⟩
      ·have HG3 : Hid (attrsG (some a.k) (l.drop (i + 1)) = R) := Lib.hid (by rw [← HG2.out, if_neg (by decide), if_neg (by decide)])
       clear HG2
       go_upto_region 10 with fail
       go_quiet (first | (go_at_call 147; refine Calls.quiet_of_same (HCm.out _)))
       go_wp2
       go_roundw
       case rel => exact ⟨i + 1, by omega, by go_num, by rw [HN.out]; exact HG3.out, blwN HB2.out _⟩
       case measure => simp [intOf]; omega
    ·have hr : R = E := by rw [← HG.out, attrsG_one (by rw [hE]; exact hE0), hE]
     rw [hE] at HX
     subst hr
     have i9 : (R == 0) = false := beq_eq_false_iff_ne.2 hE0
     have i8 : (R != 0) = true := by rw [bne, i9]; rfl
     clear h4 HG HN hE hE0 i9
     go_upto_region 6 with fail
     generalize wr.alloc (.cells #[.string a.k, .string a.v] 123) = wt at *
     have d0 := HT.out.cell (i := 0) rfl
     have d1 := HT.out.cell (i := 1) rfl
     go_wp2_with fail
     refine (HX.out _).mono ?_
     rintro e2 w2 ⟨rfl, hb2⟩
     have HB2 := Lib.hid (HBt.out.trans (hb2.mono HBt.out.size))
     clear hb2
     go_wp2
     go_ret
     exact ⟨rfl, HB2.out⟩
   ·obtain rfl : i = l.length := by omega
    have hiI : ¬ ((l.length : Nat) : Int) < (l.length : Int) := by omega
    have hr : R = 0 := by rw [← HE.out, List.drop_length, attrsG]
    subst hr
    go_wp2
    go_ret
    exact ⟨rfl, HB.out⟩
end
end Go.Proofs.YtbccghbngaiceaaGreatDoor
