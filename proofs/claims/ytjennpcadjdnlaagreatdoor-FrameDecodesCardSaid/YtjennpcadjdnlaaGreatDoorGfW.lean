/-
  WALKS: the program's gf256: double, Mul, Add.
-/
import Derived.Test.YtjennpcadjdnlaaGreatDoorRows
import Derived.Test.YtjennpcadjdnlaaGreatDoorMem
import Derived.WalkKit
import Derived.WalkSpells
import Derived.WalkLawsBesides
import Derived.Deep.QuietTactic
import Derived.BigQuiet
import Derived.Lib.Hide
import Derived.Test.YtjennpcadjdnlaaGreatDoorGfA
namespace Go.Proofs.YtjennpcadjdnlaaGreatDoor
open Go.RowKit

theorem u8_xor {a b : Nat} (ha : a < 256) (hb : b < 256) : bits .xor .u8 (a : Int) (b : Int) = ((a ^^^ b : Nat) : Int) := by
  have ha' : a % 2 ^ IntKind.u8.bits = a := Nat.mod_eq_of_lt ha
  have hb' : b % 2 ^ IntKind.u8.bits = b := Nat.mod_eq_of_lt hb
  simp only [bits, BitVec.ofInt_natCast, BitVec.toNat_xor, BitVec.toNat_ofNat, ha', hb']
  have := xor_lt ha hb
  exact by rw [IntKind.wrap_u8]; omega
theorem u8_and1 {a : Nat} (ha : a < 256) : bits .and .u8 (a : Int) 1 = ((a % 2 : Nat) : Int) := by
  have := bits_mask .u8 8 (by decide) wraps_u8 1 (by decide) (a : Int) (by omega) (by omega)
  simpa using this

theorem ret_num {k : IntKind} {a b : Int} (h : a = b) : Ending.returned (.int k a) = .returned (.int k b) := by rw [h]

set_option maxHeartbeats 400000 in
theorem dbl_any (w : World) (a : Nat) (ha : a < 256) : Calls Tryz.prog 162 #[.int .u8 a] w fun e w' => e = .returned (.int .u8 (dbl8 a : Nat)) ∧ w = w' := by
  by_cases h : 128 ≤ a
  · have hI : (128 : Int) ≤ a := by omega
    have h2 : bits .xor .u8 ((a : Int) * 2 % 256) 29 = ((dbl8 a : Nat) : Int) := by
      unfold dbl8
      rw [if_pos h, ← u8_xor (by omega) (by omega), Nat.mul_comm]
      rfl
    have H2 := Lib.hid h2
    clear h2
    go_enter Tryz.func162, Tryz.ntmps162
    go_wp2
    go_ret
    exact ⟨ret_num H2.out, rfl⟩
  · have hI : ¬ (128 : Int) ≤ a := by omega
    go_enter Tryz.func162, Tryz.ntmps162
    go_wp2
    go_ret
    refine ⟨ret_num ?_, rfl⟩
    unfold dbl8
    rw [if_neg h]
    omega
set_option maxHeartbeats 400000 in
theorem gadd_any (w : World) (a b : Nat) (ha : a < 256) (hb : b < 256) : Calls Tryz.prog 97 #[.int .u8 a, .int .u8 b] w fun e w' => e = .returned (.int .u8 (a ^^^ b : Nat)) ∧ w = w' := by
  have H := Lib.hid (u8_xor ha hb)
  go_enter Tryz.func97, Tryz.ntmps97
  go_wp2
  go_ret
  exact ⟨ret_num H.out, rfl⟩
/-- How many bits b has. -/
def nbits : Nat → Nat → Nat
  | 0, _ => 0
  | k + 1, b => if b = 0 then 0 else nbits k (b / 2) + 1
set_option maxHeartbeats 1000000 in
theorem gmul_any (w : World) (a b : Nat) (ha : a < 256) (hb : b < 256) : Calls Tryz.prog 96 #[.int .u8 a, .int .u8 b] w fun e w' => e = .returned (.int .u8 (gmul a b : Nat)) ∧ w = w' := by
  go_enter Tryz.func96, Tryz.ntmps96
  go_wp2
  go_loop [0, 1, 5] (fun x y s => ∃ (k a' b' s' : Nat), k ≤ 8 ∧ a' < 256 ∧ b' < 2 ^ k ∧ s' < 256 ∧ x = .int .u8 a' ∧ y = .int .u8 b' ∧ s = .int .u8 s' ∧ gmulL k s' a' b' = gmul a b) (fun _ y _ => (intOf y).toNat)
  case atStart => exact ⟨8, a, b, 0, Nat.le_refl _, ha, hb, by omega, rfl, rfl, rfl, rfl⟩
  case round =>
    obtain ⟨k, a', b', s', hk, ha', hb', hs', rfl, rfl, rfl, hg⟩ := hrel
    have Hg := Lib.hid hg
    clear hg
    have hb8 : b' < 256 := Nat.lt_of_lt_of_le hb' (Nat.pow_le_pow_right (i := k) (j := 8) (by omega) hk)
    by_cases h0 : b' = 0
    · subst h0
      go_wp2
      go_ret
      refine ⟨ret_num ?_, rfl⟩
      rw [← Hg.out, gmulL_zero]
    · obtain ⟨k, rfl⟩ : ∃ j, k = j + 1 := by
        cases k with
        | zero => exact absurd (by simpa using hb') h0
        | succ j => exact ⟨j, rfl⟩
      have hpos : (0 : Int) < b' := by omega
      have hpN : 0 < b' := by omega
      have hand := u8_and1 hb8
      have hdb := dbl_any w a' ha'
      have Hdb := Lib.hid hdb
      have hdl := dbl8_lt ha'
      have hxl := xor_lt hs' ha'
      have hh : b' / 2 < 2 ^ k := by rw [Nat.pow_succ] at hb'; omega
      have Hh := Lib.hid hh
      have Hxl := Lib.hid hxl
      have Hdl := Lib.hid hdl
      clear hdb hh hb' hxl hdl
      by_cases hodd : b' % 2 = 1
      · have hx := u8_xor hs' ha'
        have hand' : (bits .and .u8 (b' : Int) 1 == 1) = true := by rw [hand, hodd]; rfl
        have Hodd := Lib.hid hodd
        clear hand hodd
        go_wp2_with (go_at_call 162; refine Hdb.out.mono ?_; rintro e w' ⟨rfl, rfl⟩)
        go_round
        case rel =>
          refine ⟨k, dbl8 a', b' / 2, s' ^^^ a', by omega, Hdl.out, Hh.out, Hxl.out, rfl, by go_num, by rw [← hx], ?_⟩
          rw [← Hg.out, gmulL, if_neg h0, if_pos Hodd.out]
        case measure => simp [intOf]; omega
      · have hand' : (bits .and .u8 (b' : Int) 1 == 1) = false := by
          rw [hand, show b' % 2 = 0 by omega]; rfl
        have Hodd := Lib.hid hodd
        clear hand hodd
        go_wp2_with (go_at_call 162; refine Hdb.out.mono ?_; rintro e w' ⟨rfl, rfl⟩)
        go_round
        case rel =>
          refine ⟨k, dbl8 a', b' / 2, s', by omega, Hdl.out, Hh.out, hs', rfl, by go_num, rfl, ?_⟩
          rw [← Hg.out, gmulL, if_neg h0, if_neg Hodd.out]
        case measure => simp [intOf]; omega

end Go.Proofs.YtjennpcadjdnlaaGreatDoor
