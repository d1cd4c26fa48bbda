/-
  WALKS: reedsolomon.Generator at eight symbols, divider.
-/
import Derived.Test.YtjennpcadjdnlaaGreatDoorEncA
import Derived.Test.YtjennpcadjdnlaaGreatDoorRsW
namespace Go.Proofs.YtjennpcadjdnlaaGreatDoor
open Go.RowKit

theorem genP_all : allB 9 (fun i => (genP i).all (fun x => decide (x < 256)) && decide ((genP i).length ≤ 9)) = true := by decide +kernel
theorem genP_bytes {i : Nat} (h : i < 9) : Bytes (genP i) ∧ (genP i).length ≤ 9 := by
  have h1 := allB_out genP_all i h
  simp only [Bool.and_eq_true, decide_eq_true_eq, List.all_eq_true] at h1
  exact ⟨fun x hx => by simpa using h1.1 x hx, h1.2⟩
theorem gexp_small {i : Nat} (h : i < 8) : gexp (i : Int) = pw i := by
  unfold gexp gexpN
  congr 1
  omega

set_option maxRecDepth 100000 in
set_option maxHeartbeats 4000000 in
theorem gen_any (w : World) : Calls Tryz.prog 178 #[.int .i64 8] w fun e w' => ∃ v, e = .returned (.tuple #[v, .int .i64 0]) ∧ BytesAt w' v G8 ∧ Below w.heap.size w w' := by
  go_enter Tryz.func178, Tryz.ntmps178
  go_wp2
  go_loopw [4, 14] (fun v x wr => ∃ i : Nat, i ≤ 8 ∧ x = .int .i64 (i : Int) ∧ BytesAt wr v (genP i) ∧ Below w.heap.size w wr) (fun _ x _ => 8 - (intOf x).toNat)
  case atStart => exact ⟨0, by omega, rfl, BytesAt.one w 1, (Below.refl _ _).alloc (Nat.le_refl _) _⟩
  case round =>
    obtain ⟨i, hi, rfl, hv, hB⟩ := hrel
    rename_i v _
    by_cases h : i < 8
    · have hiI : (i : Int) < 8 := by omega
      obtain ⟨hgb, hgl⟩ := genP_bytes (i := i) (by omega)
      have Hv := Lib.hid hv
      have HBr := Lib.hid hB
      have He := Lib.hid (gexp_any wr (i : Int) (by omega))
      rw [gexp_small h] at He
      have hnext : pmul (genP i) [pw i, 1] = genP (i + 1) := rfl
      have Hnext := Lib.hid hnext
      have hpw := pw_lt i
      clear hv hB hnext
      go_wp2_with fail
      refine He.out.mono ?_
      rintro e w1 ⟨rfl, hb1⟩
      have hv1 := BytesAt.below Hv.out hb1
      have hA : Below w1.heap.size w1 (w1.alloc (.cells #[.int .u8 (pw i : Nat), .int .u8 1] 5)) := (Below.refl _ _).alloc (Nat.le_refl _) _
      have hv2 := BytesAt.below hv1 hA
      have hq : BytesAt (w1.alloc (.cells #[.int .u8 (pw i : Nat), .int .u8 1] 5)) (.slice (some ⟨w1.heap.size, 0, none⟩) 2 2) [pw i, 1] := (U8B.new w1 [pw i, 1]).bytes rfl (Nat.le_refl _) (by omega)
      have Hm := Lib.hid (pmul_any _ _ _ _ _ hv2 hq hgb (fun x hx => by simp at hx; omega) (by omega) (by simp))
      have HB2 := Lib.hid (HBr.out.trans ((hb1.trans (hA.mono hb1.size)).mono HBr.out.size))
      clear hv1 hA hv2 hq hb1 hgb hgl hpw
      go_wp2_with fail
      refine Hm.out.mono ?_
      rintro e w2 ⟨v', rfl, hv', hb2⟩
      rw [Hnext.out] at hv'
      have Hv' := Lib.hid hv'
      have HB3 := Lib.hid (HB2.out.trans (hb2.mono HB2.out.size))
      clear hv' hb2
      go_wp2
      go_roundw
      case rel => exact ⟨i + 1, by omega, by go_num, Hv'.out, HB3.out⟩
      case measure => simp [intOf]; omega
    · obtain rfl : i = 8 := by omega
      have Hv := Lib.hid hv
      have HBr := Lib.hid hB
      clear hv hB
      go_wp2
      go_ret2
      exact ⟨_, rfl, by rw [← genP_8]; exact Hv.out, HBr.out⟩

/-- The register behind i steps of a round. -/
def lfI (r : List Nat) (s i : Nat) : List Nat := (List.range 8).map fun j => if j < i then cf r (j + 1) ^^^ gmul (s ^^^ cf r 0) (cf G8 (7 - j)) else cf r (j + 1)
theorem lfI_len (r : List Nat) (s i : Nat) : (lfI r s i).length = 8 := by unfold lfI; rw [List.length_map, List.length_range]
theorem lfI_cf (r : List Nat) (s i j : Nat) : cf (lfI r s i) j = if j < 8 then (if j < i then cf r (j + 1) ^^^ gmul (s ^^^ cf r 0) (cf G8 (7 - j)) else cf r (j + 1)) else 0 := by unfold lfI; rw [cf_map]
theorem list_ext8 {a b : List Nat} (ha : a.length = 8) (hb : b.length = 8) (h : ∀ i, i < 8 → cf a i = cf b i) : a = b := by
  refine List.ext_getElem? fun i => ?_
  by_cases hi : i < 8
  · have := h i hi
    unfold cf at this
    rw [List.getElem?_eq_getElem (by omega), List.getElem?_eq_getElem (by omega)] at this ⊢
    simpa using this
  · rw [List.getElem?_eq_none (by omega), List.getElem?_eq_none (by omega)]
theorem lfI_zero {r : List Nat} (h : r.length = 8) (s : Nat) : r.drop 1 ++ [0] = lfI r s 0 := by
  refine list_ext8 (by simp [h]) (lfI_len _ _ _) fun j hj => ?_
  rw [lfI_cf, if_pos hj, if_neg (by omega)]
  unfold cf
  by_cases h7 : j < 7
  · rw [List.getElem?_append_left (by simp; omega), List.getElem?_drop, Nat.add_comm]
  · obtain rfl : j = 7 := by omega
    rw [List.getElem?_append_right (by simp [h]), List.getElem?_eq_none (l := r) (by omega)]
    simp [h]
theorem lfI_set {r : List Nat} {s i : Nat} (h : i < 8) : (lfI r s i).set i (cf (lfI r s i) i ^^^ gmul (s ^^^ cf r 0) (cf G8 (7 - i))) = lfI r s (i + 1) := by
  refine list_ext8 (by rw [List.length_set, lfI_len]) (lfI_len _ _ _) fun j hj => ?_
  rw [cf_set _ _ _ _ (by rw [lfI_len]; exact h), lfI_cf, lfI_cf, lfI_cf, if_pos hj, if_pos hj, if_pos h, if_neg (Nat.lt_irrefl i)]
  by_cases e : i = j
  · subst e
    rw [if_pos rfl, if_pos (by omega)]
  · rw [if_neg e]
    by_cases h1 : j < i
    · rw [if_pos h1, if_pos (by omega)]
    · rw [if_neg h1, if_neg (by omega)]
theorem lfI_end (r : List Nat) (s : Nat) : lfI r s 8 = lfsr G8 r s := by
  unfold lfI lfsr
  refine List.map_congr_left fun j hj => ?_
  rw [if_pos (List.mem_range.1 hj)]

end Go.Proofs.YtjennpcadjdnlaaGreatDoor
