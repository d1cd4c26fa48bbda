/-
  WALK: cells.FromBytes.
-/
import Derived.Test.YtjennpcadjdnlaaGreatDoorEncB
namespace Go.Proofs.YtjennpcadjdnlaaGreatDoor
open Go.RowKit

set_option maxRecDepth 100000 in
set_option maxHeartbeats 4000000 in
theorem cfrom_any (w : World) (s : ByteArray) (hs : s.size ≤ 10000) : Calls Tryz.prog 128 #[.string s] w fun e w' => e = .returned (.string (strB (frmB (bs s)))) ∧ Below w.heap.size w w' := by
  have hbl := bs_len s
  go_enter Tryz.func128, Tryz.ntmps128
  go_wp2
  go_loopw [8] (fun x wr => ∃ i : Nat, i ≤ s.size ∧ x = .int .i64 (i : Int) ∧ Bld wr w.heap.size w.heap.size (frmB ((bs s).take i)) ∧ Below w.heap.size w wr) (fun x _ => s.size - (intOf x).toNat)
  case atStart => exact ⟨0, by omega, rfl, Bld.new w, (Below.refl _ _).alloc (Nat.le_refl _) _⟩
  case round =>
    obtain ⟨i, hi, rfl, hbl1, hB⟩ := hrel
    have Hbl := Lib.hid hbl1
    have HBr := Lib.hid hB
    clear hbl1 hB
    by_cases h : i < s.size
    · have hiI : (i : Int) < s.size := by omega
      have hst : frmB ((bs s).take (i + 1)) = frmB ((bs s).take i) ++ byCs (s[i]'h).toNat := by
        rw [List.take_add_one, bs_get s i h]
        exact frmB_snoc _ _
      have Hst := Lib.hid hst
      have hlen : (frmB ((bs s).take i)).length ≤ 80000 := by rw [frmB_len, List.length_take]; omega
      have hb8 : (s[i]'h).toNat < 256 := UInt8.toNat_lt _
      obtain ⟨L, hL⟩ : ∃ L, frmB ((bs s).take i) = L := ⟨_, rfl⟩
      rw [hL] at Hbl Hst hlen
      have Hlen := Lib.hid hlen
      have Hb8 := Lib.hid hb8
      clear hst hL hlen hb8
      go_wp2
      go_loopw [11] (fun x wq => ∃ k : Nat, k ≤ 8 ∧ x = .int .i64 (k : Int) ∧ Bld wq w.heap.size w.heap.size (L ++ (List.range k).map (byC (s[i]'h).toNat)) ∧ Below w.heap.size w wq) (fun x _ => 8 - (intOf x).toNat)
      case atStart => exact ⟨0, by omega, rfl, by simpa using Hbl.out, HBr.out⟩
      case round =>
        obtain ⟨k, hk, rfl, hbl2, hB2⟩ := hrel
        by_cases h' : k < 8
        · have hkI : (k : Int) < 8 := by omega
          have Hwb := Lib.hid (wb_any wr w.heap.size w.heap.size _ (byC (s[i]'h).toNat k) hbl2 (by rw [List.length_append, List.length_map, List.length_range]; have := Hlen.out; omega) hB2.size)
          have hsn : (L ++ (List.range k).map (byC (s[i]'h).toNat)) ++ [byC (s[i]'h).toNat k] = L ++ (List.range (k + 1)).map (byC (s[i]'h).toNat) := by rw [List.range_succ, List.map_append, List.append_assoc]; rfl
          have Hsn := Lib.hid hsn
          have HB2 := Lib.hid hB2
          have hsh := u8_sh1 ⟨7 - k, by omega⟩ ⟨(s[i]'h).toNat, Hb8.out⟩
          dsimp only at hsh
          have hx2 : (s[i]'h).toNat / 2 ^ (7 - k) % 2 < 2 := Nat.mod_lt _ (by decide)
          have hbc : byC (s[i]'h).toNat k = 48 + (s[i]'h).toNat / 2 ^ (7 - k) % 2 := rfl
          rw [hsn, hbc] at Hwb
          generalize (s[i]'h).toNat / 2 ^ (7 - k) % 2 = x at *
          have hw1 : IntKind.u8.wrap (48 + (x : Int)) = 48 + x := by rw [IntKind.wrap_u8]; omega
          have hw2 : (48 + (x : Int)) % 256 = 48 + x := by omega
          have hw3 : (((48 + x : Nat)) : Int) = 48 + x := by omega
          rw [hw3] at Hwb
          clear hsn hbc hx2 hw3 hbl2 hB2
          rcases (by omega : k = 0 ∨ k = 1 ∨ k = 2 ∨ k = 3 ∨ k = 4 ∨ k = 5 ∨ k = 6 ∨ k = 7) with rfl | rfl | rfl | rfl | rfl | rfl | rfl | rfl
          all_goals
            simp only [Nat.sub_zero, Nat.reduceSub, Nat.sub_self, Int.reducePow, Int.ediv_one] at hsh
            go_wp2_with fail
            refine Hwb.out.mono ?_
            rintro e w2 ⟨rfl, hbl3, hb3⟩
            have HL3 := Lib.hid hbl3
            have HB3 := Lib.hid hb3
            clear hbl3 hb3 Hwb Hbl HBr Hst Hlen Hb8 Hsn hsh
            go_wp2_with fail
            refine ⟨⟨_, ?_, ?_, HL3.out, HB2.out.trans HB3.out⟩, ?_⟩
            · omega
            · rfl
            · simp [intOf]
        · obtain rfl : k = 8 := by omega
          have HB2 := Lib.hid hB2
          have Hb2 : Hid (Bld wr w.heap.size w.heap.size (frmB ((bs s).take (i + 1)))) := Lib.hid (by rw [Hst.out]; exact hbl2)
          clear hbl2 hB2
          go_wp2
          go_roundw
          case rel => exact ⟨i + 1, by omega, by go_num, Hb2.out, HB2.out⟩
          case measure => simp [intOf]; omega
    · obtain rfl : i = s.size := by omega
      have hl := Hbl.out
      rw [List.take_of_length_le (by omega)] at hl
      have Hs := Lib.hid (str_any wr w.heap.size w.heap.size _ (fun c hc => by rcases frmB_01 _ c hc with rfl | rfl <;> omega) hl HBr.out.size)
      clear hl Hbl
      go_wp2_with (go_at_call 61; refine Hs.out.mono ?_; rintro e w2 ⟨rfl, hbl3, hb3⟩; have HB3 := Lib.hid hb3; clear hbl3 hb3)
      go_ret
      exact ⟨rfl, HBr.out.trans HB3.out⟩

end Go.Proofs.YtjennpcadjdnlaaGreatDoor
