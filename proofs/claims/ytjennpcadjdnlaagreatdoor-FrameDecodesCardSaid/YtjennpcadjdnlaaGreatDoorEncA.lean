/-
  WALKS: interleave.Interleave at 836 bytes and eight rows.
-/
import Derived.Test.YtjennpcadjdnlaaGreatDoorCnvA
namespace Go.Proofs.YtjennpcadjdnlaaGreatDoor
open Go.RowKit

def perI (l : List Nat) (i : Nat) : List Nat := (List.range 836).map fun j => if uil j < i then cf l (uil j) else 0
theorem perI_len (l : List Nat) (i : Nat) : (perI l i).length = 836 := by unfold perI; rw [List.length_map, List.length_range]
theorem perI_cf (l : List Nat) (i j : Nat) : cf (perI l i) j = if j < 836 then (if uil j < i then cf l (uil j) else 0) else 0 := by unfold perI; rw [cf_map]
theorem perI_set {l : List Nat} {i : Nat} (h : i < 836) : (perI l i).set (ilv i) (cf l i) = perI l (i + 1) := by
  refine list_ext836 (by rw [List.length_set, perI_len]) (perI_len _ _) fun j hj => ?_
  rw [cf_set _ _ _ _ (by rw [perI_len]; exact ilv_lt h), perI_cf, perI_cf, if_pos hj, if_pos hj]
  by_cases e : ilv i = j
  · subst e
    rw [if_pos rfl, uil_ilv h, if_pos (by omega)]
  · rw [if_neg e]
    have hne : uil j ≠ i := fun hu => e (by rw [← hu]; exact (ilv_uil hj).1)
    by_cases h1 : uil j < i
    · rw [if_pos h1, if_pos (by omega)]
    · rw [if_neg h1, if_neg (by omega)]
theorem perI_zero (l : List Nat) : perI l 0 = List.replicate 836 0 := by
  refine list_ext836 (perI_len _ _) List.length_replicate fun j hj => ?_
  rw [perI_cf, if_pos hj, if_neg (by omega)]
  unfold cf
  rw [List.getElem?_replicate, if_pos hj]
  rfl
theorem perI_end (l : List Nat) : perI l 836 = interL l := by
  unfold perI interL
  refine List.map_congr_left fun j hj => ?_
  rw [if_pos (ilv_uil (List.mem_range.1 hj)).2]

set_option maxRecDepth 100000 in
set_option maxHeartbeats 4000000 in
theorem permI_any (w : World) (s : ByteArray) (hs : s.size = 836) : Calls Tryz.prog 77 #[.string s, .int .i64 8, .func (.func 181) #[] #[]] w fun e w' => e = .returned (.tuple #[.string (strB (interL (bs s))), .int .i64 0]) ∧ Below w.heap.size w w' := by
  have hmk := make_u8_836
  have hsI : (s.size : Int) = 836 := by omega
  have hK0 : U8B (w.alloc (.cells (arrB (perD [] 0)) 5)) w.heap.size (perI (bs s) 0) := by
    rw [perI_zero, ← perD_zero []]
    exact U8B.new w _
  have HK0 := Lib.hid hK0
  have HB0 := Lib.hid ((Below.refl w.heap.size w).alloc (Nat.le_refl _) (.cells (arrB (perD [] 0)) 5))
  have hbl := bs_len s
  clear hK0
  go_enter Tryz.func77, Tryz.ntmps77
  go_wp2
  go_loopw [19] (fun x wr => ∃ i : Nat, i ≤ 836 ∧ x = .int .i64 i ∧ U8B wr w.heap.size (perI (bs s) i) ∧ Below w.heap.size w wr) (fun x _ => 836 - (intOf x).toNat)
  case atStart => exact ⟨0, by omega, rfl, HK0.out, HB0.out⟩
  case round =>
    obtain ⟨i, hi, rfl, hb, hB⟩ := hrel
    have Hb := Lib.hid hb
    have HBr := Lib.hid hB
    clear hb hB HK0 HB0
    by_cases h : i < 836
    · have hiI : (i : Int) < 836 := by omega
      go_wp2_with fail
      refine (ilindex_any _ i h).mono ?_
      rintro e w1 ⟨rfl, hb⟩
      have Hb1 := Lib.hid (Blk.kept Hb.out hb)
      have HB1 := Lib.hid (HBr.out.trans (hb.mono HBr.out.size))
      have hlt := Blk.lt Hb.out
      clear hb
      have hil := ilv_lt h
      have hx : i < s.size := by omega
      have hxI : (i : Int) < s.size := by omega
      have hxJ : ((ilv i : Nat) : Int) < 836 := by omega
      have hcx : cf (bs s) i = (s[i]'hx).toNat := cf_get (bs_get s _ hx)
      have hc1 := U8B.cell Hb1.out (i := ilv i) (x := cf (perI (bs s) i) (ilv i)) (by unfold cf; rw [List.getElem?_eq_getElem (by rw [perI_len]; exact hil)]; rfl)
      have hf1 := Blk.frozen Hb1.out (ilv i)
      have Hset : Hid (U8B (w1.setCell ⟨w.heap.size, ilv i, none⟩ (.int .u8 ((s[i]'hx).toNat : Nat))) w.heap.size (perI (bs s) (i + 1))) := Lib.hid (by
        rw [← hcx, ← perI_set h]
        exact U8B.set Hb1.out (ilv i) _)
      clear hcx
      go_wp2_with (go_at_call 181; refine (inter1_any _ _ _).mono ?_; rintro e w' ⟨rfl, rfl⟩)
      go_roundw
      case rel => exact ⟨i + 1, by omega, by go_num, Hset.out, HB1.out.setCell (p := ⟨w.heap.size, ilv i, none⟩) (Nat.le_refl _) _⟩
      case measure => simp [intOf]; omega
    · have hi8 : i = 836 := by omega
      subst hi8
      have hv := U8B.bytes Hb.out (n := 836) (c := 836) (by rw [perI_len]) (Nat.le_refl _) (by omega)
      rw [perI_end] at hv
      have hcs := run_toStr hv (interL_len _).symm
      clear hv
      go_wp2
      go_ret2
      exact ⟨rfl, HBr.out⟩
set_option maxHeartbeats 400000 in
theorem inter_any (w : World) (s : ByteArray) (hs : s.size = 836) : Calls Tryz.prog 132 #[.string s, .int .i64 8] w fun e w' => e = .returned (.tuple #[.string (strB (interL (bs s))), .int .i64 0]) ∧ Below w.heap.size w w' := by
  have H := Lib.hid (permI_any w s hs)
  clear hs
  go_enter Tryz.func132, Tryz.ntmps132
  go_wp2_with (go_at_call 77; refine H.out.mono ?_; rintro e w' ⟨rfl, hb⟩)
  go_ret2
  exact ⟨rfl, hb⟩

end Go.Proofs.YtjennpcadjdnlaaGreatDoor
