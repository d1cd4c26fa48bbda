/-
  WALK: stelelaw13.alive, tooLong.
-/
import Derived.Test.YtjennpcadjdnlaaGreatDoorFrK
import Derived.Test.YtjennpcadjdnlaaGreatDoorFrH
import Derived.Test.YtjennpcadjdnlaaGreatDoorShelf
namespace Go.Proofs.YtjennpcadjdnlaaGreatDoor
open Go.RowKit

def msg0 : ByteArray := strB (marL 66 0 1 0 0 1 0 0 zeros28)
theorem msg0_eq : marR 66 0 1 0 0 1 0 0 zeros28 = .tuple #[.string msg0, .int .i64 0] := by
  unfold marR
  rw [if_neg (by decide +kernel)]
  rfl
theorem msg0_size : msg0.size = 44 := by decide +kernel
theorem msg0_prefix : Lib.hasPrefix msg0.data.toList [66, 0, 0, 1, 0, 0, 0, 16, 0] = true := by decide +kernel

set_option maxRecDepth 100000 in
set_option maxHeartbeats 8000000 in
theorem alive_any (w : World) : Calls Tryz.prog 12 #[] w fun e w' => e = .returned (.bool true) ∧ Below w.heap.size w w' := by
  have HMk : Hid (∀ W : World, Calls Tryz.prog 31 #[.int .i64 0, .int .i64 1, .int .i64 0, .agg #[.int .i64 1, .int .i64 0], .int .u32 0, .string ⟨#[]⟩] W fun e w' => e = .returned (frV 66 0 1 0 0 1 0 0 zeros28) ∧ Below W.heap.size W w') := Lib.hid rmake_any
  have HMar : Hid (∀ W : World, Calls Tryz.prog 32 #[frV 66 0 1 0 0 1 0 0 zeros28] W fun e w' => e = .returned (.tuple #[.string msg0, .int .i64 0]) ∧ Below W.heap.size W w') := Lib.hid (fun W => by
    have h := fmar_any W 66 0 1 0 0 1 0 0 zeros28 (by decide +kernel) (by omega)
    rw [msg0_eq] at h
    exact h)
  have HRp : Hid (∀ W : World, Calls Tryz.prog 33 #[.string ⟨#[63]⟩, .int .i64 836] W fun e w' => e = .returned (.string openS) ∧ Below W.heap.size W w') := Lib.hid (fun W => repeat_any W 63 836 (by omega))
  have HDec : Hid (∀ W : World, Calls Tryz.prog 14 #[.string openS] W fun e w' => e = .returned (.tuple #[zeroF, zeroQ, .int .i64 5]) ∧ Below W.heap.size W w') := Lib.hid (fun W => by
    have h := fdec_any W openS (by unfold openS; rw [strB_size, List.length_replicate]; omega)
    rw [dec_open] at h
    exact h)
  have HPre : Hid (∀ W : World, Calls Tryz.prog 34 #[.string msg0, .string ⟨#[66, 0, 0, 1, 0, 0, 0, 16, 0]⟩] W fun e w' => e = .returned (.bool true) ∧ w' = W) := Lib.hid (fun W => by
    have h := Tryz.strings_HasPrefix msg0 ⟨#[66, 0, 0, 1, 0, 0, 0, 16, 0]⟩ W
    rw [show (ByteArray.mk #[66, 0, 0, 1, 0, 0, 0, 16, 0]).data.toList = [66, 0, 0, 1, 0, 0, 0, 16, 0] from rfl, msg0_prefix] at h
    exact h)
  have hz := msg0_size
  generalize msg0 = M at *
  generalize openS = O at *
  unfold zeroF zeroQ qualV at HDec
  unfold frV at HMk HMar HDec
  generalize zeros28 = Z at *
  go_enter Tryz.func12, Tryz.ntmps12
  go_upto_region 2 with (go_at_call 31; refine (HMk.out _).mono ?_; rintro e w1 ⟨rfl, hb1⟩)
  have hB := Lib.hid (hb1.alloc hb1.size (.cells #[.int .i64 66, .int .i64 0, .int .i64 1, .int .i64 0, .int .i64 0, .int .i64 1, .int .i64 0, .int .u32 0, .string Z] 26))
  obtain ⟨c0, c1, c2, c3, c4, c5, c6, c7, c8⟩ := Box9.blk (Blk.new w1 26 [.int .i64 66, .int .i64 0, .int .i64 1, .int .i64 0, .int .i64 0, .int .i64 1, .int .i64 0, .int .u32 0, .string Z])
  dsimp only [List.toArray] at c0 c1 c2 c3 c4 c5 c6 c7 c8
  generalize w1.alloc (.cells #[.int .i64 66, .int .i64 0, .int .i64 1, .int .i64 0, .int .i64 0, .int .i64 1, .int .i64 0, .int .u32 0, .string Z] 26) = w2 at *
  clear hb1
  go_upto_region 3 with (go_at_call 32; refine (HMar.out _).mono ?_; rintro e w3 ⟨rfl, hb3⟩)
  have hB3 := Lib.hid (hB.out.trans (hb3.mono hB.out.size))
  clear c0 c1 c2 c3 c4 c5 c6 c7 c8 hb3 hB HMk HMar
  go_upto_region 4 with (first | (go_at_call 33; refine (HRp.out _).mono ?_; rintro e w4 ⟨rfl, hb4⟩) | (go_at_call 14; refine (HDec.out _).mono ?_; rintro e w5 ⟨rfl, hb5⟩))
  have hB5 := Lib.hid (hB3.out.trans ((hb4.trans (hb5.mono hb4.size)).mono hB3.out.size))
  clear hb4 hb5 hB3 HRp HDec
  go_wp2_with (go_at_call 34; refine (HPre.out _).mono ?_; rintro e w6 ⟨rfl, rfl⟩)
  go_ret
  exact ⟨rfl, (hB5.out.alloc hB5.out.size _).alloc (by have := hB5.out.size; simp; omega) _⟩

set_option maxRecDepth 100000 in
set_option maxHeartbeats 4000000 in
theorem tooLong_any (w : World) (k r s i l d p a : Int) (t : ByteArray) : Calls Tryz.prog 13 #[frV k r s i l d p a t] w fun e w' => e = .returned (.bool (decide (200 < t.size))) ∧ Below w.heap.size w w' := by
  have hd : decide ((200 : Int) < t.size) = decide (200 < t.size) := by
    by_cases h : 200 < t.size
    · rw [decide_eq_true h, decide_eq_true (by omega)]
    · rw [decide_eq_false h, decide_eq_false (by omega)]
  obtain ⟨b, hb⟩ : ∃ b, decide (200 < t.size) = b := ⟨_, rfl⟩
  rw [hb] at hd ⊢
  clear hb
  unfold frV
  go_enter Tryz.func13, Tryz.ntmps13
  go_wp2
  go_ret
  exact ⟨rfl, (Below.refl _ _).alloc (Nat.le_refl _) _⟩

end Go.Proofs.YtjennpcadjdnlaaGreatDoor
