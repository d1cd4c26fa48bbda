/-
 WALK: steleref13.Encode.
-/
import Derived.Test.YtnlnmfkmbpihhaaGreatDoorFrN
import Derived.Test.YtnlnmfkmbpihhaaGreatDoorFrI
import Derived.Test.YtnlnmfkmbpihhaaGreatDoorRfA
namespace Go.Proofs.YtnlnmfkmbpihhaaGreatDoor
open Go.RowKit

set_option maxRecDepth 100000 in
set_option maxHeartbeats 8000000 in
theorem renc_all (w : World) (k r s i l d p a : Int) (t : ByteArray) (ha : 0 ≤ a ∧ a < 4294967296) :
  Calls Tryz.prog 37 #[frV k r s i l d p a t] w fun e w' => e = .returned (fencR k r s i l d p a t) ∧ Below w.heap.size w w' := by
 obtain ⟨R, hR⟩ : ∃ R, fencR k r s i l d p a t = R := ⟨_, rfl⟩
 rw [hR]
 unfold fencR at hR
 have HMr := Lib.hid (fun W => rmar_all W k r s i l d p a t ha)
 have HB := Lib.hid ((Below.refl w.heap.size w).alloc (Nat.le_refl _) (.cells #[.int .i64 k, .int .i64 r, .int .i64 s, .int .i64 i, .int .i64 l, .int .i64 d, .int .i64 p, .int .u32 a, .string t] 34))
 have HZ := Lib.hid (Box9.blk (Blk.new w 34 [.int .i64 k, .int .i64 r, .int .i64 s, .int .i64 i, .int .i64 l, .int .i64 d, .int .i64 p, .int .u32 a, .string t]))
 change Hid (Box9 (w.alloc (.cells #[.int .i64 k, .int .i64 r, .int .i64 s, .int .i64 i, .int .i64 l, .int .i64 d, .int .i64 p, .int .u32 a, .string t] 34)) _ _ _ _ _ _ _ _ _ _) at HZ
 unfold marR at HMr
 by_cases h0 : frE k r s i l d p t = 0
 ·rw [if_neg (by simpa using h0)] at hR HMr
  have hmb : Bytes (marL k.toNat r.toNat s.toNat i.toNat l.toNat d.toNat p.toNat a.toNat t) ∧ (marL k.toNat r.toNat s.toNat i.toNat l.toNat d.toNat p.toNat a.toNat t).length = 44 := by
   obtain ⟨h1, h2, h3, h4, h5, h6, h7, h8⟩ := frE_ok h0
   have e : frE (k.toNat : Int) (r.toNat : Int) (s.toNat : Int) (i.toNat : Int) (l.toNat : Int) (d.toNat : Int) (p.toNat : Int) t = 0 := by
    rw [Int.toNat_of_nonneg (by omega), Int.toNat_of_nonneg (by omega), Int.toNat_of_nonneg (by omega), Int.toNat_of_nonneg (by omega), Int.toNat_of_nonneg (by omega), Int.toNat_of_nonneg (by omega), Int.toNat_of_nonneg (by omega)]
    exact h0
   obtain ⟨c, _, _, h9, h10, _, _⟩ := mar_ok (a := a.toNat) e (by omega)
   exact ⟨h9, h10⟩
  obtain ⟨m, hm⟩ : ∃ m, marL k.toNat r.toNat s.toNat i.toNat l.toNat d.toNat p.toNat a.toNat t = m := ⟨_, rfl⟩
  rw [hm] at hR HMr hmb
  obtain ⟨hmB, hml⟩ := hmb
  obtain ⟨hwl, hwB⟩ := rsEnc_ok hmB hml
  have H1 : Hid (∀ W : World, Calls Tryz.prog 70 #[.string (stepS m 0), .int .i64 8] W fun e w' => e = .returned (.tuple #[.string (stepS m 1), .int .i64 0]) ∧ Below W.heap.size W w') := Lib.hid (fun W => by
   have h := rsenc7_any W (strB m) (by rw [strB_size, hml])
   rw [bs_strB hmB] at h
   exact h)
  have H2 : Hid (∀ W : World, Calls Tryz.prog 72 #[.string (stepS m 1)] W fun e w' => e = .returned (.string (stepS m 2)) ∧ Below W.heap.size W w') := Lib.hid (fun W => by
   have h := rfrom_any W (strB (rsEnc m)) (by rw [strB_size, hwl]; omega)
   rw [bs_strB hwB] at h
   exact h)
  have H3 : Hid (∀ W : World, Calls Tryz.prog 71 #[.string (stepS m 2)] W fun e w' => e = .returned (.tuple #[.string (stepS m 3), .int .i64 0]) ∧ Below W.heap.size W w') := Lib.hid (fun W =>
   rcenc_any W (strB (frmB (rsEnc m))) (bitU (rsEnc m)) (by rw [bitsS_bitU, bs_strB]; intro x hx; rcases frmB_01 _ x hx with rfl | rfl <;> decide) (bitU_bits _) (by rw [bitU_len, hwl]; omega))
  have H4 : Hid (∀ W : World, Calls Tryz.prog 73 #[.string (stepS m 3), .int .i64 8] W fun e w' => e = .returned (.tuple #[.string (stepS m 4), .int .i64 0]) ∧ Below W.heap.size W w') := Lib.hid (fun W => by
   have h := rinter_any W (strB (cellL m)) (by rw [strB_size, cellL_len hmB hml])
   rw [bs_strB (fun x hx => by rcases cellL_01 m x hx with rfl | rfl <;> decide)] at h
   exact h)
  have z4 : (stepS m 4).size = 836 := by show (strB (bodyL m)).size = _; rw [strB_size, bodyL_len]
  have zk : markS.size = 16 := by decide
  have HR : Hid (Value.tuple #[.string (markS ++ stepS m 4), .int .i64 0] = R) := Lib.hid hR
  have HMr2 : Hid (∀ W : World, Calls Tryz.prog 69 #[frV k r s i l d p a t] W fun e w' => e = .returned (.tuple #[.string (stepS m 0), .int .i64 0]) ∧ Below W.heap.size W w') := Lib.hid HMr.out
  clear hR h0 hm hmB hml hwl hwB HMr ha
  have HK : Hid (∀ W : World, Calls Tryz.prog 74 #[] W fun e w' => e = .returned (.string markS) ∧ W = w') := Lib.hid (fun W => rmark_any W)
  generalize hS : stepS m = S at *
  clear hS
  generalize markS = K at *
  unfold frV at HMr2 ⊢
  go_enter Tryz.func37, Tryz.ntmps37
  go_upto_region 1 with fail
  generalize w.alloc (.cells #[.int .i64 k, .int .i64 r, .int .i64 s, .int .i64 i, .int .i64 l, .int .i64 d, .int .i64 p, .int .u32 a, .string t] 34) = wz at *
  obtain ⟨c0, c1, c2, c3, c4, c5, c6, c7, c8⟩ := HZ.out
  go_upto_region 4 with (go_at_call 69; refine (HMr2.out _).mono ?_; rintro e w1 ⟨rfl, hb1⟩)
  have HB1 := Lib.hid (HB.out.trans (hb1.mono HB.out.size))
  clear hb1 HZ HB HMr2 c0 c1 c2 c3 c4 c5 c6 c7 c8
  go_upto_region 5 with (go_at_call 70; refine (H1.out _).mono ?_; rintro e w2 ⟨rfl, hb2⟩)
  have HB2 := Lib.hid (HB1.out.trans (hb2.mono HB1.out.size))
  clear hb2 HB1 H1
  go_upto_region 6 with (first | (go_at_call 72; refine (H2.out _).mono ?_; rintro e w3 ⟨rfl, hb3⟩) | (go_at_call 71; refine (H3.out _).mono ?_; rintro e w4 ⟨rfl, hb4⟩))
  have HB4 := Lib.hid (HB2.out.trans ((hb3.trans (hb4.mono hb3.size)).mono HB2.out.size))
  clear hb3 hb4 HB2 H2 H3
  go_upto_region 7 with (go_at_call 73; refine (H4.out _).mono ?_; rintro e w5 ⟨rfl, hb5⟩)
  have HB5 := Lib.hid (HB4.out.trans (hb5.mono HB4.out.size))
  clear hb5 HB4 H4
  go_wp2_with (go_at_call 74; refine (HK.out _).mono ?_; rintro e w6 ⟨rfl, rfl⟩)
  rw [← HR.out]
  exact bodyPost_ret (v := .tuple #[.string (K ++ S 4), .int .i64 0]) (by simp [results, Tryz.results37, go_sem]) rfl ⟨rfl, HB5.out⟩
 ·have h1 : (frE k r s i l d p t != 0) = true := by simpa using h0
  rw [if_pos h0] at hR HMr
  obtain ⟨E, hE⟩ : ∃ E, frE k r s i l d p t = E := ⟨_, rfl⟩
  rw [hE] at hR HMr h1
  have HR := Lib.hid hR
  clear hR h0 hE ha
  unfold frV at HMr ⊢
  go_enter Tryz.func37, Tryz.ntmps37
  go_upto_region 1 with fail
  generalize w.alloc (.cells #[.int .i64 k, .int .i64 r, .int .i64 s, .int .i64 i, .int .i64 l, .int .i64 d, .int .i64 p, .int .u32 a, .string t] 34) = wz at *
  obtain ⟨c0, c1, c2, c3, c4, c5, c6, c7, c8⟩ := HZ.out
  go_wp2_with (go_at_call 69; refine (HMr.out _).mono ?_; rintro e w1 ⟨rfl, hb1⟩)
  rw [← HR.out]
  exact bodyPost_ret (v := .tuple #[.string ⟨#[]⟩, .int .i64 E]) (by simp [results, Tryz.results37, go_sem]) rfl ⟨rfl, HB.out.trans (hb1.mono HB.out.size)⟩

theorem renc_any (w : World) (k r s i l d p a : Int) (t : ByteArray) (_ : t.size ≤ 1000) (ha : 0 ≤ a ∧ a < 4294967296) :
  Calls Tryz.prog 37 #[frV k r s i l d p a t] w fun e w' => e = .returned (fencR k r s i l d p a t) ∧ Below w.heap.size w w' := renc_all w k r s i l d p a t ha
theorem fenc_ok {k r s i l d p a : Int} {t : ByteArray} (h : frE k r s i l d p t = 0) : ∃ C : ByteArray, C.size = 852 ∧ fencR k r s i l d p a t = .tuple #[.string C, .int .i64 0] := by
 refine ⟨_, ?_, by unfold fencR; rw [if_neg (by simpa using h)]⟩
 rw [ByteArray.size_append, strB_size, bodyL_len]
 decide

end Go.Proofs.YtnlnmfkmbpihhaaGreatDoor
