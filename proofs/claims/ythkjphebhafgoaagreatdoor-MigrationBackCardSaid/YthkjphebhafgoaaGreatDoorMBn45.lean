/-
  Joined: MbW.
-/
import Derived.Test.YthkjphebhafgoaaGreatDoorMBn44
set_option linter.all false
set_option maxRecDepth 100000
set_option maxHeartbeats 64000000
namespace Go.Proofs.YthkjphebhafgoaaGreatDoor
section
open Go.RowKit
theorem scpiecesN (w : World) : Calls Tryz.prog 58 #[.slice none 0 0] w fun e w' => e = .returned (.slice none 0 0) ∧ Below w.heap.size w w' := by
 have HB := Lib.hid ((Below.refl w.heap.size w).alloc (Nat.le_refl _) (.cells #[.slice none 0 0] 132))
 have hc := (Blk.new w 132 [.slice none 0 0]).cell (i := 0) rfl
 change (w.alloc (.cells #[.slice none 0 0] 132)).cell? _ = _ at hc
 go_enter Tryz.func58, Tryz.ntmps58
 go_wp2
 generalize w.alloc (.cells #[.slice none 0 0] 132) = wz at *
 go_loopw [9] (fun x wr => x = .int .i64 0 ∧ wr = wz) (fun _ _ => 0)
 case atStart => exact ⟨rfl, rfl⟩
 case round =>
  obtain ⟨rfl, rfl⟩ := hrel
  go_wp2
  go_ret
  exact ⟨rfl, HB.out⟩
theorem compN (w : World) : Calls Tryz.prog 62 #[.slice none 0 0] w fun e w' => e = .returned (.slice none 0 0) ∧ w = w' := by
 go_enter Tryz.func62, Tryz.ntmps62
 go_wp2
 go_ret
 exact ⟨rfl, rfl⟩
theorem len64N (w : World) : Calls Tryz.prog 182 #[.int .u64 0] w fun e w' => e = .returned (.int .i64 0) ∧ w = w' := by
 go_enter Tryz.func182, Tryz.ntmps182
 go_wp2
 go_ret
 exact ⟨ret_num (by kernel_rfl), rfl⟩
theorem lenN (w : World) : Calls Tryz.prog 115 #[.int .u64 0] w fun e w' => e = .returned (.int .i64 0) ∧ w = w' := by
 have H := Lib.hid (len64N w)
 go_enter Tryz.func115, Tryz.ntmps115
 go_wp2_with (go_at_call 182; refine H.out.mono ?_; rintro e w' ⟨rfl, rfl⟩)
 go_ret
 exact ⟨rfl, rfl⟩
theorem insN (w : World) : Calls Tryz.prog 185 #[.slice none 0 0, .int .i64 0, .int .i64 0] w fun e w' => e = .returned (.tuple #[]) ∧ w = w' := by
 go_enter Tryz.func185, Tryz.ntmps185
 go_wp2
 refine wp_loop_rounds 1 ?_
 rw [rounds_succ]
 go_wp2
 go_end0
 exact ⟨rfl, rfl⟩
theorem insFN (w : World) (f : Value) : Calls Tryz.prog 173 #[.slice none 0 0, .int .i64 0, .int .i64 0, f] w fun e w' => e = .returned (.tuple #[]) ∧ w = w' := by
 go_enter Tryz.func173, Tryz.ntmps173
 go_wp2
 refine wp_loop_rounds 1 ?_
 rw [rounds_succ]
 go_wp2
 go_end0
 exact ⟨rfl, rfl⟩
theorem pdqN (w : World) : Calls Tryz.prog 119 #[.slice none 0 0, .int .i64 0, .int .i64 0, .int .i64 0] w fun e w' => e = .returned (.tuple #[]) ∧ w = w' := by
 have H := Lib.hid (insN w)
 go_enter Tryz.func119, Tryz.ntmps119
 go_wp2
 refine wp_loop_rounds 1 ?_
 rw [rounds_succ]
 go_wp2_with (go_at_call 185; refine H.out.mono ?_; rintro e w' ⟨rfl, rfl⟩)
 refine bodyPost_ret (results_none rfl _ _ _) rfl ?_
 exact ⟨rfl, rfl⟩
theorem pdqFN (w : World) (f : Value) : Calls Tryz.prog 114 #[.slice none 0 0, .int .i64 0, .int .i64 0, .int .i64 0, f] w fun e w' => e = .returned (.tuple #[]) ∧ w = w' := by
 have H := Lib.hid (insFN w f)
 go_enter Tryz.func114, Tryz.ntmps114
 go_wp2
 refine wp_loop_rounds 1 ?_
 rw [rounds_succ]
 go_wp2_with (go_at_call 173; refine H.out.mono ?_; rintro e w' ⟨rfl, rfl⟩)
 refine bodyPost_ret (results_none rfl _ _ _) rfl ?_
 exact ⟨rfl, rfl⟩
theorem sortN (w : World) : Calls Tryz.prog 61 #[.slice none 0 0] w fun e w' => e = .returned (.tuple #[]) ∧ w = w' := by
 have H := Lib.hid (lenN w)
 have H2 := Lib.hid (pdqN w)
 go_enter Tryz.func61, Tryz.ntmps61
 go_wp2_with (first | (go_at_call 115; refine H.out.mono ?_; rintro e w' ⟨rfl, rfl⟩) | (go_at_call 119; refine H2.out.mono ?_; rintro e w' ⟨rfl, rfl⟩))
 go_end0
 exact ⟨rfl, rfl⟩
theorem sortFN (w : World) (f : Value) : Calls Tryz.prog 59 #[.slice none 0 0, f] w fun e w' => e = .returned (.tuple #[]) ∧ w = w' := by
 have H := Lib.hid (lenN w)
 have H2 := Lib.hid (pdqFN w f)
 go_enter Tryz.func59, Tryz.ntmps59
 go_wp2_with (first | (go_at_call 115; refine H.out.mono ?_; rintro e w' ⟨rfl, rfl⟩) | (go_at_call 114; refine H2.out.mono ?_; rintro e w' ⟨rfl, rfl⟩))
 go_end0
 exact ⟨rfl, rfl⟩
theorem collN (w : World) (a : Int) : Calls Tryz.prog 33 #[.slice none 0 0, .int .u32 a] w fun e w' => e = .returned (.agg #[.int .u32 a, .slice none 0 0]) ∧ Below w.heap.size w w' := by
 have HP := Lib.hid (fun W => scpiecesN W)
 have HS := Lib.hid (fun W f => sortFN W f)
 have hmm := @run_makeMap Tryz.prog
 have hb1 := (((Below.refl w.heap.size w).alloc (Nat.le_refl _) (.cells #[.int .u32 0, .slice none 0 0] 78)).alloc (by simp) (.map #[] 0)).alloc (by simp; omega) (.cells #[.int .u32 a, .slice none 0 0] 78)
 have HB1 := Lib.hid hb1
 have h1 := (((Blk.new w 78 [.int .u32 0, .slice none 0 0]).alloc (.map #[] 0)).alloc (.cells #[.int .u32 a, .slice none 0 0] 78))
 have H1 := Lib.hid h1
 have h2 := Blk.new ((w.alloc (.cells #[.int .u32 0, .slice none 0 0] 78)).alloc (.map #[] 0)) 78 [.int .u32 a, .slice none 0 0]
 rw [show ((w.alloc (.cells #[.int .u32 0, .slice none 0 0] 78)).alloc (.map #[] 0)).heap.size = w.heap.size + 1 + 1 by simp] at h2
 have H2 := Lib.hid h2
 change Hid (Blk (((w.alloc (.cells #[.int .u32 0, .slice none 0 0] 78)).alloc (.map #[] 0)).alloc (.cells #[.int .u32 a, .slice none 0 0] 78)) _ _ _) at H2
 change Hid (Blk (((w.alloc (.cells #[.int .u32 0, .slice none 0 0] 78)).alloc (.map #[] 0)).alloc (.cells #[.int .u32 a, .slice none 0 0] 78)) _ _ _) at H1
 clear hb1 h1 h2
 go_enter Tryz.func33, Tryz.ntmps33
 go_upto_region 3 with fail
 clear hmm
 generalize ((w.alloc (.cells #[.int .u32 0, .slice none 0 0] 78)).alloc (.map #[] 0)).alloc (.cells #[.int .u32 a, .slice none 0 0] 78) = wz at *
 go_wp2_with fail
 refine (HP.out _).mono ?_
 rintro e w1 ⟨rfl, hb1⟩
 have H11 := Lib.hid (H1.out.kept hb1)
 have H21 := Lib.hid (H2.out.kept hb1)
 have HB2 := Lib.hid (HB1.out.trans (hb1.mono HB1.out.size))
 clear hb1 H1 H2 HB1
 go_wp2_with fail
 go_loopw [15] (fun x wr => x = .int .i64 0 ∧ wr = w1) (fun _ _ => 0)
 case atStart => exact ⟨rfl, rfl⟩
 case round =>
  obtain ⟨rfl, rfl⟩ := hrel
  have c1 := H21.out.cell (i := 1) rfl
  have c0 := H21.out.cell (i := 0) rfl
  go_wp2_with fail
  refine (HS.out _ _).mono ?_
  rintro e w2 ⟨rfl, rfl⟩
  go_wp2_with (refine wpList_store_row rfl 78 (.tmp 4) (.tmp 45) rfl w.heap.size #[.int .u32 a, .slice none 0 0] rfl rfl 78 _ H11.out (by kernel_rfl) rfl (by simp [Value.oneCell']) ?_)
  refine bodyPost_ret (results_cell_row rfl _ _ w.heap.size 78 _ (0, 0) _ rfl (setRow_heap _ _ _ _ _ _ H11.out) Tryz.underlying78 rfl (by kernel_rfl)) rfl ?_
  exact ⟨rfl, below_setRow HB2.out (Nat.le_refl _) _⟩
theorem sessN (w : World) (a : Int) : Calls Tryz.prog 34 #[.agg #[.int .u32 a, .slice none 0 0]] w fun e w' => e = .returned (.slice none 0 0) ∧ Below w.heap.size w w' := by
 have HB := Lib.hid ((Below.refl w.heap.size w).alloc (Nat.le_refl _) (.cells #[.int .u32 a, .slice none 0 0] 78))
 have hc := (Blk.new w 78 [.int .u32 a, .slice none 0 0]).cell (i := 1) rfl
 change (w.alloc (.cells #[.int .u32 a, .slice none 0 0] 78)).cell? _ = _ at hc
 have H1 := Lib.hid (fun W => sortN W)
 have H2 := Lib.hid (fun W => compN W)
 go_enter Tryz.func34, Tryz.ntmps34
 go_wp2
 generalize w.alloc (.cells #[.int .u32 a, .slice none 0 0] 78) = wz at *
 go_loopw [3, 9] (fun y x wr => y = .slice none 0 0 ∧ x = .int .i64 0 ∧ wr = wz) (fun _ _ _ => 0)
 case atStart => exact ⟨rfl, rfl, rfl⟩
 case round =>
  obtain ⟨rfl, rfl, rfl⟩ := hrel
  go_wp2_with (first | (go_at_call 61; refine (H1.out _).mono ?_; rintro e w' ⟨rfl, rfl⟩) | (go_at_call 62; refine (H2.out _).mono ?_; rintro e w' ⟨rfl, rfl⟩))
  go_ret
  exact ⟨rfl, HB.out⟩
theorem readN (w : World) (a : Int) (r : ByteArray) : Calls Tryz.prog 20 #[.slice none 0 0, .agg #[.int .u32 a, .string r]] w fun e w' => e = .returned (.agg #[.slice none 0 0, .slice none 0 0]) ∧ Below w.heap.size w w' := by
 have HC := Lib.hid (fun W => collN W a)
 have HS := Lib.hid (fun W => sessN W a)
 have hb1 := (Below.refl w.heap.size w).alloc (Nat.le_refl _) (.cells #[.int .u32 a, .string r] 39)
 have HB := Lib.hid (hb1.alloc hb1.size (.cells #[.slice none 0 0, .slice none 0 0] 59))
 have hK := (Blk.new w 39 [.int .u32 a, .string r]).alloc (.cells #[.slice none 0 0, .slice none 0 0] 59)
 change Blk ((w.alloc (.cells #[.int .u32 a, .string r] 39)).alloc (.cells #[.slice none 0 0, .slice none 0 0] 59)) _ _ _ at hK
 have hR := Blk.new (w.alloc (.cells #[.int .u32 a, .string r] 39)) 59 [.slice none 0 0, .slice none 0 0]
 change Blk ((w.alloc (.cells #[.int .u32 a, .string r] 39)).alloc (.cells #[.slice none 0 0, .slice none 0 0] 59)) _ _ _ at hR
 rw [World.size_alloc] at hR
 have HR := Lib.hid hR
 have k0 := hK.cell (i := 0) rfl
 clear hb1 hK hR
 go_enter Tryz.func20, Tryz.ntmps20
 go_upto_region 1 with fail
 generalize (w.alloc (.cells #[.int .u32 a, .string r] 39)).alloc (.cells #[.slice none 0 0, .slice none 0 0] 59) = wa at *
 go_wp2_with fail
 refine (HC.out _).mono ?_
 rintro e w1 ⟨rfl, hb⟩
 have HR1 := Lib.hid (HR.out.kept hb)
 have HB1 := Lib.hid (HB.out.trans (hb.mono HB.out.size))
 clear hb k0 HR HB
 have hb1 := (Below.refl w1.heap.size w1).alloc (Nat.le_refl _) (.cells #[.int .u32 a, .slice none 0 0] 78)
 have hb2 := hb1.alloc hb1.size (.cells #[.slice none 0 0, .slice none 0 0] 59)
 have hC := (Blk.new w1 78 [.int .u32 a, .slice none 0 0]).alloc (.cells #[.slice none 0 0, .slice none 0 0] 59)
 change Blk ((w1.alloc (.cells #[.int .u32 a, .slice none 0 0] 78)).alloc (.cells #[.slice none 0 0, .slice none 0 0] 59)) _ _ _ at hC
 have hD := Blk.new (w1.alloc (.cells #[.int .u32 a, .slice none 0 0] 78)) 59 [.slice none 0 0, .slice none 0 0]
 change Blk ((w1.alloc (.cells #[.int .u32 a, .slice none 0 0] 78)).alloc (.cells #[.slice none 0 0, .slice none 0 0] 59)) _ _ _ at hD
 rw [World.size_alloc] at hD
 have HR2 := Lib.hid (HR1.out.kept hb2)
 have HB2 := Lib.hid (HB1.out.trans (hb2.mono HB1.out.size))
 have HD := Lib.hid hD
 have k0 := hC.cell (i := 0) rfl
 have k1 := hC.cell (i := 1) rfl
 clear hb1 hb2 hC hD HR1 HB1
 go_upto_region 3 with fail
 generalize (w1.alloc (.cells #[.int .u32 a, .slice none 0 0] 78)).alloc (.cells #[.slice none 0 0, .slice none 0 0] 59) = wb at *
 go_wp2_with fail
 refine (HS.out _).mono ?_
 rintro e w2 ⟨rfl, hb⟩
 have HR3 := Lib.hid (HR2.out.kept hb)
 have HB3 := Lib.hid (HB2.out.trans (hb.mono HB2.out.size))
 have HD3 := Lib.hid (HD.out.kept hb)
 clear hb k0 k1 HR2 HB2 HD
 go_wp2_with fail
 go_loopw [23] (fun x wr => x = .int .i64 0 ∧ wr = w2) (fun _ _ => 0)
 case atStart => exact ⟨rfl, rfl⟩
 case round =>
  obtain ⟨rfl, rfl⟩ := hrel
  have d0 := HD3.out.cell (i := 0) rfl
  have d1 := HD3.out.cell (i := 1) rfl
  go_wp2_with (refine wpList_store_row rfl 59 (.tmp 4) (.tmp 74) rfl (w.heap.size + 1) #[.slice none 0 0, .slice none 0 0] rfl rfl 59 _ HR3.out (by kernel_rfl) rfl (by simp [Value.oneCell']) ?_)
  refine bodyPost_ret (results_cell_row rfl _ _ (w.heap.size + 1) 59 _ (0, 0) _ rfl (setRow_heap _ _ _ _ _ _ HR3.out) Tryz.underlying59 rfl (by kernel_rfl)) rfl ?_
  exact ⟨rfl, below_setRow HB3.out (by omega) _⟩
theorem lostN (w : World) : Calls Tryz.prog 25 #[.agg #[.slice none 0 0, .slice none 0 0]] w fun e w' => e = .returned (.slice none 0 0) ∧ Below w.heap.size w w' := by
 have HB := Lib.hid ((Below.refl w.heap.size w).alloc (Nat.le_refl _) (.cells #[.slice none 0 0, .slice none 0 0] 59))
 have hc := (Blk.new w 59 [.slice none 0 0, .slice none 0 0]).cell (i := 1) rfl
 change (w.alloc (.cells #[.slice none 0 0, .slice none 0 0] 59)).cell? _ = _ at hc
 go_enter Tryz.func25, Tryz.ntmps25
 go_wp2
 generalize w.alloc (.cells #[.slice none 0 0, .slice none 0 0] 59) = wz at *
 go_loopw [3, 9] (fun y x wr => y = .slice none 0 0 ∧ x = .int .i64 0 ∧ wr = wz) (fun _ _ _ => 0)
 case atStart => exact ⟨rfl, rfl, rfl⟩
 case round =>
  obtain ⟨rfl, rfl, rfl⟩ := hrel
  go_wp2
  go_ret
  exact ⟨rfl, HB.out⟩
theorem resultsN (w : World) : Calls Tryz.prog 26 #[.agg #[.slice none 0 0, .slice none 0 0]] w fun e w' => e = .returned (.string (strB [])) ∧ Below w.heap.size w w' := by
 have hb1 := (Below.refl w.heap.size w).alloc (Nat.le_refl _) (.cells #[.slice none 0 0, .slice none 0 0] 59)
 have HB := Lib.hid (hb1.alloc hb1.size (.cells #[.pointer none, .slice none 0 0] 106))
 have hK := (Blk.new w 59 [.slice none 0 0, .slice none 0 0]).alloc (.cells #[.pointer none, .slice none 0 0] 106)
 change Blk ((w.alloc (.cells #[.slice none 0 0, .slice none 0 0] 59)).alloc (.cells #[.pointer none, .slice none 0 0] 106)) _ _ _ at hK
 have k0 := hK.cell (i := 0) rfl
 have hN := Bld.new (w.alloc (.cells #[.slice none 0 0, .slice none 0 0] 59))
 rw [World.size_alloc] at hN
 have HN := Lib.hid hN
 clear hb1 hK hN
 go_enter Tryz.func26, Tryz.ntmps26
 go_upto_region 2 with fail
 generalize (w.alloc (.cells #[.slice none 0 0, .slice none 0 0] 59)).alloc (.cells #[.pointer none, .slice none 0 0] 106) = wa at *
 have HSt := Lib.hid (str_any wa (w.heap.size + 1) (w.heap.size + 1) [] (fun _ h => nomatch h) HN.out (by have := HN.out.lt; omega))
 go_wp2_with fail
 go_loopw [15] (fun x wr => x = .int .i64 0 ∧ wr = wa) (fun _ _ => 0)
 case atStart => exact ⟨rfl, rfl⟩
 case round =>
  obtain ⟨rfl, rfl⟩ := hrel
  go_wp2_with fail
  refine HSt.out.mono ?_
  rintro e w2 ⟨rfl, _, hb⟩
  have HB2 := Lib.hid (HB.out.trans (hb.mono (by omega)))
  clear hb
  go_wp2_with fail
  go_ret
  exact ⟨rfl, HB2.out⟩
end
end Go.Proofs.YthkjphebhafgoaaGreatDoor
