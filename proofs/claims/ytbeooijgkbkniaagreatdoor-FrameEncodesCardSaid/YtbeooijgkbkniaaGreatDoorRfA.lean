/-
  WALKS: the references' FromBytes, Order, Interleave.
-/
import Derived.Test.YtbeooijgkbkniaaGreatDoorEncB
namespace Go.Proofs.YtbeooijgkbkniaaGreatDoor
open Go.RowKit

theorem vint {k : IntKind} {a b : Int} (h : a = b) : Value.int k a = Value.int k b := by rw [h]
theorem byC_quo (b : Nat) : ∀ j, j < 8 → byC b j = 48 + b / (128 / 2 ^ j) % 2 := by
  intro j hj
  unfold byC
  rcases (by omega : j = 0 ∨ j = 1 ∨ j = 2 ∨ j = 3 ∨ j = 4 ∨ j = 5 ∨ j = 6 ∨ j = 7) with rfl | rfl | rfl | rfl | rfl | rfl | rfl | rfl <;> rfl
theorem half_pow (j : Nat) : 128 / 2 ^ j / 2 = 128 / 2 ^ (j + 1) := by rw [Nat.div_div_eq_div_mul, Nat.pow_succ]
theorem half_pos {j : Nat} (hj : j < 8) : 0 < 128 / 2 ^ j ∧ 128 / 2 ^ j ≤ 128 := by
  rcases (by omega : j = 0 ∨ j = 1 ∨ j = 2 ∨ j = 3 ∨ j = 4 ∨ j = 5 ∨ j = 6 ∨ j = 7) with rfl | rfl | rfl | rfl | rfl | rfl | rfl | rfl <;> decide
theorem byCs_take {b j : Nat} (hj : j < 8) : (byCs b).take j ++ [byC b j] = (byCs b).take (j + 1) := by
  rw [List.take_succ_eq_append_getElem (by rw [byCs_len]; exact hj)]
  congr 2
  unfold byCs
  simp
theorem bs_take_snoc (s : ByteArray) {i : Nat} (h : i < s.size) : (bs s).take (i + 1) = (bs s).take i ++ [(s[i]'h).toNat] := by
  rw [List.take_succ_eq_append_getElem (by rw [bs_len]; exact h)]
  congr 2
  exact Option.some.inj ((List.getElem?_eq_getElem _).symm.trans (bs_get s i h))
set_option maxRecDepth 100000 in
set_option maxHeartbeats 4000000 in
theorem rfrom_any (w : World) (s : ByteArray) (hs : s.size ≤ 1000) : Calls Tryz.prog 52 #[.string s] w fun e w' => e = .returned (.string (strB (frmB (bs s)))) ∧ Below w.heap.size w w' := by
  have HK0 : Hid ((w.alloc (.cells #[] 5)).ownsRow w.heap.size 5 1 (.slice (some ⟨w.heap.size, 0, none⟩) 0 0) 0 (([] : List Nat).map u8V)) := Lib.hid (own_empty w 5 1)
  have HB0 := Lib.hid ((Below.refl w.heap.size w).alloc (Nat.le_refl _) (.cells #[] 5))
  go_enter Tryz.func52, Tryz.ntmps52
  go_wp2
  go_loopw [3, 4] (fun v x wr => ∃ i : Nat, i ≤ s.size ∧ x = .int .i64 i ∧ wr.ownsRow w.heap.size 5 1 v (8 * i) ((frmB ((bs s).take i)).map u8V) ∧ Below w.heap.size w wr) (fun _ x _ => s.size - (intOf x).toNat)
  case atStart => exact ⟨0, by omega, rfl, HK0.out, HB0.out⟩
  case round =>
    obtain ⟨i, hi, rfl, ho, hB⟩ := hrel
    have Ho := Lib.hid ho
    have HBr := Lib.hid hB
    clear ho hB HK0 HB0
    by_cases h : i < s.size
    · have hiI : (i : Int) < s.size := by omega
      have Hsn := Lib.hid (bs_take_snoc s h)
      obtain ⟨b, hb⟩ : ∃ b, (s[i]'h).toNat = b := ⟨_, rfl⟩
      have hb2 : b < 256 := by rw [← hb]; exact (s[i]'h).toNat_lt
      rw [hb] at Hsn
      go_wp2
      go_loopw [3, 5] (fun v y wr => ∃ j : Nat, j ≤ 8 ∧ y = .int .i64 ((128 / 2 ^ j : Nat) : Int) ∧ wr.ownsRow w.heap.size 5 1 v (8 * i + j) ((frmB ((bs s).take i) ++ (byCs b).take j).map u8V) ∧ Below w.heap.size w wr) (fun _ y _ => (intOf y).toNat)
      case atStart => exact ⟨0, by omega, rfl, by simpa using Ho.out, HBr.out⟩
      case round =>
        obtain ⟨j, hj, rfl, ho, hB⟩ := hrel
        clear Ho HBr
        have Ho := Lib.hid ho
        have HBr := Lib.hid hB
        clear ho hB
        have Hp := Lib.hid (half_pow j)
        by_cases h' : j < 8
        · obtain ⟨hK0, hK1⟩ := half_pos h'
          have hq0 := byC_quo b j h'
          have Ht := Lib.hid (byCs_take (b := b) h')
          obtain ⟨K, hK⟩ : ∃ K, 128 / 2 ^ j = K := ⟨_, rfl⟩
          rw [hK] at hK0 hK1 hq0 Hp ⊢
          clear hK
          have hKI : (0 : Int) < K := by omega
          have hdv : (0 : Int) ≤ (b : Int) / K := Int.ediv_nonneg (by omega) (by omega)
          have hdl : (b : Int) / K ≤ 255 := Int.le_trans (Int.ediv_le_self _ (by omega)) (by omega)
          have hn9 : 8 * i + j ≤ 900000 := by omega
          have hBz := HBr.out.size
          have hcast : (b : Int) / K % 2 = ((b / K % 2 : Nat) : Int) := rfl
          rcases (by omega : b / K % 2 = 0 ∨ b / K % 2 = 1) with e | e
          · rw [e] at hcast hq0
            have Hq0 := Lib.hid hq0
            clear e hq0
            have hcast : (b : Int) / K % 2 = 0 := hcast
            go_wp2_with (at_builtin; refine wpList_app1 (x := 48) rfl _ _ rfl rfl rfl Ho.out hn9 hBz ?_; intro v1 w1 ho1 hb1)
            go_roundw
            case rel =>
              refine ⟨j + 1, by omega, vint (by rw [← Hp.out]; rfl), ?_, HBr.out.trans hb1⟩
              rw [← Ht.out, Hq0.out, ← List.append_assoc]
              exact ho1
            case measure => simp [intOf]; omega
          · rw [e] at hcast hq0
            have Hq0 := Lib.hid hq0
            clear e hq0
            have hcast : (b : Int) / K % 2 = 1 := hcast
            go_wp2_with (at_builtin; refine wpList_app1 (x := 49) rfl _ _ rfl rfl rfl Ho.out hn9 hBz ?_; intro v1 w1 ho1 hb1)
            go_roundw
            case rel =>
              refine ⟨j + 1, by omega, vint (by rw [← Hp.out]; rfl), ?_, HBr.out.trans hb1⟩
              rw [← Ht.out, Hq0.out, ← List.append_assoc]
              exact ho1
            case measure => simp [intOf]; omega
        · obtain rfl : j = 8 := by omega
          have Hf := Lib.hid (frmB_snoc ((bs s).take i) b)
          go_wp2
          go_roundw
          case rel =>
            refine ⟨i + 1, by omega, by go_num, ?_, HBr.out⟩
            rw [Hsn.out, Hf.out]
            have h8 := Ho.out
            rw [List.take_of_length_le (l := byCs b) (by rw [byCs_len]; exact Nat.le_refl _)] at h8
            exact h8
          case measure => simp [intOf]; omega
    · obtain rfl : i = s.size := by omega
      have ho := Ho.out
      rw [List.take_of_length_le (by rw [bs_len]; exact Nat.le_refl _)] at ho
      obtain ⟨A, c, rfl⟩ : ∃ A c, _ = Value.slice A _ c := by
        obtain ⟨A, c, e, _⟩ := BytesAt.of_own ho
        exact ⟨A, c, e⟩
      have hcv := run_toStr (BytesAt.of_own ho) rfl
      go_wp2
      go_ret
      exact ⟨rfl, HBr.out⟩

end Go.Proofs.YtbeooijgkbkniaaGreatDoor
