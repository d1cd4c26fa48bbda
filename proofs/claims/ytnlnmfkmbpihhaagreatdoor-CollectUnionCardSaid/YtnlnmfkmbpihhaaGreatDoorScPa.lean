/-
 WALK: steleref13.Make on any payload.
-/
import Derived.Test.YtnlnmfkmbpihhaaGreatDoorScC
import Derived.Test.YtnlnmfkmbpihhaaGreatDoorFrT
namespace Go.Proofs.YtnlnmfkmbpihhaaGreatDoor
open Go.RowKit

/-- A payload of at most 28 bytes, filled up. -/
def padL (D : ByteArray) : List Nat := bs D ++ List.replicate (28 - D.size) 0
/-- What Make gives. -/
def mkFrm (r s i ld lp a : Int) (C : ByteArray) : Frm := ⟨66, r, s, i, ((min 28 C.size : Nat) : Int), ld, lp, a, strB (padL (C.extract 0 (min 28 C.size)))⟩
theorem byteCells_bs (D : ByteArray) : Lib.byteCells D.data.toList = (bs D).map u8V := by
 unfold Lib.byteCells bs
 rw [List.map_map]
 rfl
set_option maxRecDepth 100000 in
set_option maxHeartbeats 4000000 in
theorem rmake_all (w : World) (r s i ld lp a : Int) (C : ByteArray) (hC : C.size ≤ 1000000) :
  Calls Tryz.prog 38 #[.int .i64 r, .int .i64 s, .int .i64 i, .agg #[.int .i64 ld, .int .i64 lp], .int .u32 a, .string C] w fun e w' => e = .returned (mkFrm r s i ld lp a C).v ∧ Below w.heap.size w w' := by
 obtain ⟨D, hD⟩ : ∃ D, C.extract 0 (min 28 C.size) = D := ⟨_, rfl⟩
 have hDz : D.size = min 28 C.size := by rw [← hD, ByteArray.size_extract]; omega
 have hfr : mkFrm r s i ld lp a C = ⟨66, r, s, i, (D.size : Int), ld, lp, a, strB (padL D)⟩ := by unfold mkFrm; rw [hD, hDz]
 rw [hfr]
 have hlen : (padL D).length = 28 := by unfold padL; rw [List.length_append, bs_len, List.length_replicate]; omega
 have hmk : ∀ W : World, (Instr.makeSlice 100 (.int .i64 28) (.int .i64 28)).run Tryz.prog W = .ok (.slice (some ⟨W.heap.size, 0, none⟩) 28 28) (W.alloc (.cells (arrB (List.replicate 28 0)) 5)) := make_u8 28 28 (Nat.le_refl _) (by omega)
 have hE1 : ∀ W : World, (Builtin.copy_ #[100, 9] 3 #[.slice (some ⟨W.heap.size, 0, none⟩) 28 28, .string D]).run Tryz.prog (W.alloc (.cells (arrB (List.replicate 28 0)) 5)) =
   .ok (goInt D.size) (W.alloc (.cells (arrB (padL D)) 5)) := fun W => by
  have h := Lib.run_copy_row_string (P := Tryz.prog) (W.alloc (.cells (arrB (List.replicate 28 0)) 5)) 100 9 3 5 W.heap.size 0 28 28 D (arrB (List.replicate 28 0)) 5 Tryz.underlying100 (by kernel_rfl) (heap_alloc_new _ _) (by omega) (by unfold arrB; simp; omega)
  rw [World.setRow_alloc_new, byteCells_bs] at h
  rw [h]
  have e : (List.take 0 (arrB (List.replicate 28 0)).toList ++ (bs D).map u8V ++ List.drop (0 + D.size) (arrB (List.replicate 28 0)).toList).toArray = arrB (padL D) := by
   unfold arrB padL
   rw [List.map_append, List.take_zero, List.nil_append, Nat.zero_add, List.map_replicate, List.map_replicate]
   show (_ ++ List.drop D.size (List.replicate 28 (u8V 0))).toArray = _
   rw [List.drop_replicate]
  rw [e]
 have hE2 : ∀ W : World, (convert 100 9 (.slice (some ⟨W.heap.size, 0, none⟩) 28 28)).run Tryz.prog (W.alloc (.cells (arrB (padL D)) 5)) =
   .ok (.string (strB (padL D))) (W.alloc (.cells (arrB (padL D)) 5)) := fun W =>
  run_toStr ((U8B.new W (padL D)).bytes (n := 28) (c := 28) hlen.symm (Nat.le_refl _) (by omega)) hlen.symm
 have hB := ((Below.refl w.heap.size w).alloc (Nat.le_refl _) (.cells #[.int .i64 ld, .int .i64 lp] 31)).alloc (by simp) (.cells #[.int .i64 0, .int .i64 0, .int .i64 0, .int .i64 0, .int .i64 0, .int .i64 0, .int .i64 0, .int .u32 0, .string ⟨#[]⟩] 34)
 have hs := hB.size
 have hU : Blk ((w.alloc (.cells #[.int .i64 ld, .int .i64 lp] 31)).alloc (.cells #[.int .i64 0, .int .i64 0, .int .i64 0, .int .i64 0, .int .i64 0, .int .i64 0, .int .i64 0, .int .u32 0, .string ⟨#[]⟩] 34)) (w.heap.size + 1) 34 zeroL := by
  have h := Blk.new (w.alloc (.cells #[.int .i64 ld, .int .i64 lp] 31)) 34 [.int .i64 0, .int .i64 0, .int .i64 0, .int .i64 0, .int .i64 0, .int .i64 0, .int .i64 0, .int .u32 0, .string ⟨#[]⟩]
  rw [show (w.alloc (.cells #[.int .i64 ld, .int .i64 lp] 31)).heap.size = w.heap.size + 1 by simp] at h
  exact h
 have hL : (w.alloc (.cells #[.int .i64 ld, .int .i64 lp] 31)).cell? ⟨w.heap.size, 0, none⟩ = some (.int .i64 ld) ∧ (w.alloc (.cells #[.int .i64 ld, .int .i64 lp] 31)).cell? ⟨w.heap.size, 1, none⟩ = some (.int .i64 lp) := by
  have h := Blk.new w 31 [.int .i64 ld, .int .i64 lp]
  exact ⟨h.cell (i := 0) rfl, h.cell (i := 1) rfl⟩
 have hL0 := cell_below ((Below.refl _ _).alloc (Nat.le_refl _) (.cells #[.int .i64 0, .int .i64 0, .int .i64 0, .int .i64 0, .int .i64 0, .int .i64 0, .int .i64 0, .int .u32 0, .string ⟨#[]⟩] 34)) hL.1
 have hL1 := cell_below ((Below.refl _ _).alloc (Nat.le_refl _) (.cells #[.int .i64 0, .int .i64 0, .int .i64 0, .int .i64 0, .int .i64 0, .int .i64 0, .int .i64 0, .int .u32 0, .string ⟨#[]⟩] 34)) hL.2
 have HB := Lib.hid hB
 have HU := Lib.hid hU
 have hDz28 : D.size ≤ 28 := by omega
 have hcase : (¬ (28 : Int) < C.size ∧ D = C) ∨ ((28 : Int) < C.size ∧ C.extract 0 28 = D ∧ (28 : Int) ≤ C.size) := by
  by_cases h : 28 < C.size
  ·exact .inr ⟨by omega, by rw [← hD, Nat.min_eq_left (by omega)], by omega⟩
  ·refine .inl ⟨by omega, ?_⟩
   rw [← hD, Nat.min_eq_right (by omega), ByteArray.extract_zero_size]
 clear hB hU hL hDz hD hfr
 unfold Frm.v
 dsimp only
 generalize strB (padL D) = Z at *
 generalize padL D = L at *
 generalize List.replicate 28 0 = Z28 at *
 rcases hcase with ⟨h28, rfl⟩ | ⟨h28, hex, h28b⟩
 all_goals
  go_enter Tryz.func38, Tryz.ntmps38
  go_upto_region 1 with fail
  generalize (w.alloc (.cells #[.int .i64 ld, .int .i64 lp] 31)).alloc (.cells #[.int .i64 0, .int .i64 0, .int .i64 0, .int .i64 0, .int .i64 0, .int .i64 0, .int .i64 0, .int .u32 0, .string ⟨#[]⟩] 34) = wz at *
  have hA : Below wz.heap.size wz (wz.alloc (.cells (arrB L) 5)) := (Below.refl _ _).alloc (Nat.le_refl _) _
  have hL2 := cell_below hA hL0
  have hL3 := cell_below hA hL1
  have hU2 := HU.out.kept hA
  have hB2 := HB.out.trans (hA.mono hs)
  have HT := Lib.hid hU2.there
  have HG := Lib.hid (setCells_below hB2 (by omega : w.heap.size ≤ w.heap.size + 1) [.int .i64 66, .int .i64 r, .int .i64 s, .int .i64 i, .int .i64 (D.size : Int), .int .i64 ld, .int .i64 lp, .int .u32 a, .string Z] 0)
  have HF := Lib.hid (setCells_blk [.int .i64 66, .int .i64 r, .int .i64 s, .int .i64 i, .int .i64 (D.size : Int), .int .i64 ld, .int .i64 lp, .int .u32 a, .string Z] [] zeroL _ hU2 rfl)
  obtain ⟨W1, hE⟩ : ∃ W1, (wz.alloc (.cells (arrB L) 5)).setCells (w.heap.size + 1) 0 [.int .i64 66, .int .i64 r, .int .i64 s, .int .i64 i, .int .i64 (D.size : Int), .int .i64 ld, .int .i64 lp, .int .u32 a, .string Z] = W1 := ⟨_, rfl⟩
  have HE := Lib.hid hE
  have HO : Hid ((#[.int .i64 66, .int .i64 r, .int .i64 s, .int .i64 i, .int .i64 (D.size : Int), .int .i64 ld, .int .i64 lp, .int .u32 a, .string Z] : Array Value).all (·.oneCell') = true) := Lib.hid (by simp [Value.oneCell'])
  rw [hE] at HG
  have HF2 : Hid (Blk W1 (w.heap.size + 1) 34 _) := Lib.hid (hE ▸ HF.out)
  clear hA hU2 hB2 hE HF HU HB hL0 hL1
  go_wp2_with (refine frm_store rfl (.tmp 12) (.tmp 32) rfl _ _ rfl rfl HT.out rfl HO.out W1 HE.out ?_)
  have hF := HF2.out
  have c0 := hF.cell (i := 0) rfl
  have c1 := hF.cell (i := 1) rfl
  have c2 := hF.cell (i := 2) rfl
  have c3 := hF.cell (i := 3) rfl
  have c4 := hF.cell (i := 4) rfl
  have c5 := hF.cell (i := 5) rfl
  have c6 := hF.cell (i := 6) rfl
  have c7 := hF.cell (i := 7) rfl
  have c8 := hF.cell (i := 8) rfl
  exact bodyPost_ret (v := frV 66 r s i (D.size : Int) ld lp a Z) (by simp [results, Tryz.results38, go_sem, frV, c0, c1, c2, c3, c4, c5, c6, c7, c8]) rfl ⟨rfl, HG.out⟩
end Go.Proofs.YtnlnmfkmbpihhaaGreatDoor
