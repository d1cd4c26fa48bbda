/-
  WALKS: the references' Order, Interleave, Encode of the inner code.
-/
import Derived.Test.YtbeooijgkbkniaaGreatDoorRfA
import Derived.Test.YtbeooijgkbkniaaGreatDoorEncE
namespace Go.Proofs.YtbeooijgkbkniaaGreatDoor
open Go.RowKit

/-- The first n places in the order of the interleaved form. -/
def ordL (n : Nat) : List Nat := (List.range n).map uil
theorem ordL_succ (n : Nat) : ordL (n + 1) = ordL n ++ [uil n] := by unfold ordL; rw [List.range_succ, List.map_append]; rfl
theorem ordL_len (n : Nat) : (ordL n).length = n := by unfold ordL; rw [List.length_map, List.length_range]
/-- Where row r begins. -/
def rowAt (r : Nat) : Nat := r * 104 + min r 4
theorem min4 (r : Nat) : min r 4 = r ∧ r ≤ 4 ∨ min r 4 = 4 ∧ 4 ≤ r := by
  rcases Nat.le_total r 4 with h | h
  · exact .inl ⟨Nat.min_eq_left h, h⟩
  · exact .inr ⟨Nat.min_eq_right h, h⟩
theorem uil_row {r q : Nat} (hr : r < 8) (h : r + 8 * q < 836) : uil (rowAt r + q) = r + 8 * q := by
  have e : rowAt r + q = ilv (r + 8 * q) := by
    unfold rowAt ilv
    rw [show (r + 8 * q) % 8 = r by omega, show (r + 8 * q) / 8 = q by omega]
  rw [e, uil_ilv h]
theorem rowAt_end {r q : Nat} (hr : r < 8) (h : r + 8 * q = 836) : rowAt r + q = rowAt (r + 1) := by
  have h1 := min4 r
  have h2 := min4 (r + 1)
  unfold rowAt
  omega
theorem rowAt_last {r q : Nat} (hr : r < 8) (h : 828 < r + 8 * q) (h' : r + 8 * q < 836) : rowAt r + (q + 1) = rowAt (r + 1) := by
  have h1 := min4 r
  have h2 := min4 (r + 1)
  unfold rowAt
  omega
theorem rowAt_le {r q : Nat} (hr : r < 8) (h : r + 8 * q ≤ 836) : rowAt r + q ≤ 836 := by
  have h1 := min4 r
  unfold rowAt
  omega

set_option maxRecDepth 100000 in
set_option maxHeartbeats 4000000 in
theorem rorder_any (w : World) : Calls Tryz.prog 99 #[.int .i64 836, .int .i64 8] w fun e w' => ∃ v, e = .returned v ∧ SlAt (PlainR natV) w' v (ordL 836) ∧ Below w.heap.size w w' := by
  have HK0 : Hid ((w.alloc (.cells #[] 3)).ownsRow w.heap.size 3 1 (.slice (some ⟨w.heap.size, 0, none⟩) 0 0) (rowAt 0) ((ordL (rowAt 0)).map natV)) := Lib.hid (own_empty w 3 1)
  have HB0 := Lib.hid ((Below.refl w.heap.size w).alloc (Nat.le_refl _) (.cells #[] 3))
  go_enter Tryz.func99, Tryz.ntmps99
  go_wp2
  go_loopw [5, 6] (fun v x wr => ∃ r : Nat, r ≤ 8 ∧ x = .int .i64 (r : Int) ∧ wr.ownsRow w.heap.size 3 1 v (rowAt r) ((ordL (rowAt r)).map natV) ∧ Below w.heap.size w wr) (fun _ x _ => 8 - (intOf x).toNat)
  case atStart => exact ⟨0, by omega, rfl, HK0.out, HB0.out⟩
  case round =>
    obtain ⟨r, hr, rfl, ho, hB⟩ := hrel
    have Ho := Lib.hid ho
    have HBr := Lib.hid hB
    clear ho hB HK0 HB0
    by_cases h : r < 8
    · have hrI : (r : Int) < 8 := by omega
      have hrJ : (r : Int) < 836 := by omega
      go_wp2
      go_loopw [5, 7] (fun v y wr => ∃ q i : Nat, i ≤ 836 ∧ i = r + 8 * q ∧ y = .int .i64 (i : Int) ∧ wr.ownsRow w.heap.size 3 1 v (rowAt r + q) ((ordL (rowAt r + q)).map natV) ∧ Below w.heap.size w wr) (fun _ y _ => 836 - (intOf y).toNat)
      case atStart => exact ⟨0, r, by omega, by omega, rfl, Ho.out, HBr.out⟩
      case round =>
        obtain ⟨q, i, hi, hq, rfl, ho, hB⟩ := hrel
        clear Ho HBr
        have Ho := Lib.hid ho
        have HBr := Lib.hid hB
        have Hq := Lib.hid hq
        have hBz := HBr.out.size
        have hle : rowAt r + q ≤ 900000 := by have := rowAt_le (r := r) (q := q) h (by omega); omega
        clear ho hB
        by_cases h' : i < 836
        · have hiI : (i : Int) < 836 := by omega
          have Hu : Hid (ordL (rowAt r + (q + 1)) = ordL (rowAt r + q) ++ [i]) := Lib.hid (by rw [← Nat.add_assoc, ordL_succ, uil_row h (by omega), ← hq])
          by_cases hb : 828 < i
          · have hbI : (828 : Int) < i := by omega
            have Hl := Lib.hid (rowAt_last (q := q) h (by omega) (by omega))
            clear hq
            go_wp2_with (at_builtin; refine wpList_appOne Tryz.underlying63 Tryz.infoInt rfl (by omega) rfl _ _ rfl rfl rfl rfl Ho.out hle hBz ?_; intro v1 w1 ho1 hb1)
            go_roundw
            case rel =>
              refine ⟨r + 1, by omega, by go_num, ?_, HBr.out.trans hb1⟩
              rw [← Hl.out, Hu.out, List.map_append]
              exact ho1
            case measure => simp [intOf]; omega
          · have hbI : ¬ (828 : Int) < i := by omega
            clear hq
            go_wp2_with (at_builtin; refine wpList_appOne Tryz.underlying63 Tryz.infoInt rfl (by omega) rfl _ _ rfl rfl rfl rfl Ho.out hle hBz ?_; intro v1 w1 ho1 hb1)
            go_roundw
            case rel =>
              refine ⟨q + 1, i + 8, by omega, by have := Hq.out; omega, by go_num, ?_, HBr.out.trans hb1⟩
              rw [Hu.out, List.map_append]
              exact ho1
            case measure => simp [intOf]; omega
        · have hiI : ¬ (i : Int) < 836 := by omega
          have Hl := Lib.hid (rowAt_end (q := q) h (by omega))
          clear hq
          go_wp2
          go_roundw
          case rel => exact ⟨r + 1, by omega, by go_num, by rw [← Hl.out]; exact Ho.out, HBr.out⟩
          case measure => simp [intOf]; omega
    · obtain rfl : r = 8 := by omega
      have Hv := Lib.hid (SlAt.of_own Ho.out)
      go_wp2
      go_ret
      exact ⟨_, rfl, Hv.out, HBr.out⟩

theorem interL_take (l : List Nat) (k : Nat) (h : k < 836) : (interL l).take (k + 1) = (interL l).take k ++ [cf l (uil k)] := by
  have hk : k < (interL l).length := by rw [interL_len]; exact h
  have h2 : cf (interL l) k = (interL l)[k] := cf_get (List.getElem?_eq_getElem hk)
  have h3 : cf (interL l) k = cf l (uil k) := by unfold interL; rw [cf_map, if_pos h]
  rw [List.take_succ_eq_append_getElem hk, ← h2, h3]
set_option maxRecDepth 100000 in
set_option maxHeartbeats 4000000 in
theorem rinter_any (w : World) (s : ByteArray) (hs : s.size = 836) : Calls Tryz.prog 53 #[.string s, .int .i64 8] w fun e w' => e = .returned (.tuple #[.string (strB (interL (bs s))), .int .i64 0]) ∧ Below w.heap.size w w' := by
  go_enter Tryz.func53, Tryz.ntmps53
  go_upto_region 4 with (go_at_call 99; refine (rorder_any _).mono ?_; rintro e w1 ⟨v1, rfl, hv1, hb1⟩)
  have Hv := Lib.hid hv1
  obtain ⟨A1, c1, rfl, k1, k2, k3⟩ := hv1
  rw [ordL_len] at k1
  have HK0 : Hid ((w1.alloc (.cells #[] 5)).ownsRow w1.heap.size 5 1 (.slice (some ⟨w1.heap.size, 0, none⟩) 0 0) 0 (([] : List Nat).map u8V)) := Lib.hid (own_empty w1 5 1)
  have HB0 := Lib.hid ((Below.refl w1.heap.size w1).alloc (Nat.le_refl _) (.cells #[] 5))
  have HB1 := Lib.hid hb1
  clear k3 hb1
  rw [ordL_len]
  go_wp2
  go_loopw [7, 8] (fun v x wr => ∃ k : Nat, k ≤ 836 ∧ x = .int .i64 (k : Int) ∧ wr.ownsRow w1.heap.size 5 1 v k (((interL (bs s)).take k).map u8V) ∧ Below w1.heap.size w1 wr) (fun _ x _ => 836 - (intOf x).toNat)
  case atStart => exact ⟨0, by omega, rfl, HK0.out, HB0.out⟩
  case round =>
    obtain ⟨k, hk, rfl, ho, hB⟩ := hrel
    clear HK0 HB0
    have Ho := Lib.hid ho
    have HBr := Lib.hid hB
    have hBz := HBr.out.size
    clear ho hB
    by_cases h : k < 836
    · have hkI : (k : Int) < 836 := by omega
      have hu := (ilv_uil h).2
      obtain ⟨b, o, rfl, hc⟩ := SlAt.cell (SlAt.keep Hv.out (fun _ _ => cell_below HBr.out) plainR_keep) (i := k) (x := uil k) (by unfold ordL; rw [List.getElem?_map, List.getElem?_range h]; rfl)
      have Ht := Lib.hid (interL_take (bs s) k h)
      have hle : k ≤ 900000 := by omega
      generalize uil k = u at *
      have huI : (u : Int) < s.size := by omega
      have hus : u < s.size := by omega
      have Hx := Lib.hid (bs_cf s u hus)
      go_wp2_with (at_builtin; refine wpList_app1 rfl _ _ rfl rfl rfl Ho.out hle hBz ?_; intro v1 w2 ho1 hb1)
      go_roundw
      case rel =>
        refine ⟨k + 1, by omega, by go_num, ?_, HBr.out.trans hb1⟩
        rw [Ht.out, Hx.out]
        exact ho1
      case measure => simp [intOf]; omega
    · obtain rfl : k = 836 := by omega
      have ho := Ho.out
      rw [List.take_of_length_le (by rw [interL_len]; exact Nat.le_refl _)] at ho
      have hv := BytesAt.of_own ho
      obtain ⟨A, c, rfl, j1, j2, j3⟩ := BytesAt.of_own ho
      have hcs := run_toStr hv rfl
      clear j3
      rw [interL_len] at hcs ⊢
      clear hv ho
      go_wp2
      go_ret2
      exact ⟨rfl, HB1.out.trans (HBr.out.mono HB1.out.size)⟩

end Go.Proofs.YtbeooijgkbkniaaGreatDoor
