/-
  WALKS: frame.encoding and its steps, frame.Encode.
-/
import Derived.Test.YtjennpcadjdnlaaGreatDoorRtA
import Derived.Test.YtjennpcadjdnlaaGreatDoorEncE
import Derived.Test.YtjennpcadjdnlaaGreatDoorEncF
import Derived.Test.YtjennpcadjdnlaaGreatDoorEncG
import Derived.Test.YtjennpcadjdnlaaGreatDoorFrE
namespace Go.Proofs.YtjennpcadjdnlaaGreatDoor
open Go.RowKit

set_option maxHeartbeats 1000000 in
theorem fenc1_any (w : World) (s : ByteArray) (hs : s.size = 44) : Calls Tryz.prog 126 #[.string s] w fun e w' => e = .returned (.string (strB (rsEnc (bs s)))) ∧ Below w.heap.size w w' := by
  have H := Lib.hid (rsencode_any w s hs)
  clear hs
  go_enter Tryz.func126, Tryz.ntmps126
  go_wp2_with (go_at_call 127; refine H.out.mono ?_; rintro e w' ⟨rfl, hb⟩)
  go_ret
  exact ⟨rfl, hb⟩
set_option maxHeartbeats 1000000 in
theorem fenc2_any (w : World) (s : ByteArray) (u : List Nat) (hs : bs s = bitsS u) (hu : Bits u) (hz : s.size = 416) : Calls Tryz.prog 129 #[.string s] w fun e w' => e = .returned (.string (strB (cenc 0 (u ++ [0, 0])))) ∧ Below w.heap.size w w' := by
  have H := Lib.hid (venc_any w s u hs hu hz)
  clear hs hu hz
  go_enter Tryz.func129, Tryz.ntmps129
  go_wp2_with (go_at_call 130; refine H.out.mono ?_; rintro e w' ⟨rfl, hb⟩)
  go_ret
  exact ⟨rfl, hb⟩
set_option maxHeartbeats 1000000 in
theorem fenc3_any (w : World) (s : ByteArray) (hs : s.size = 836) : Calls Tryz.prog 131 #[.string s] w fun e w' => e = .returned (.string (strB (interL (bs s)))) ∧ Below w.heap.size w w' := by
  have H := Lib.hid (inter_any w s hs)
  clear hs
  go_enter Tryz.func131, Tryz.ntmps131
  go_wp2_with (go_at_call 132; refine H.out.mono ?_; rintro e w' ⟨rfl, hb⟩)
  go_ret
  exact ⟨rfl, hb⟩
abbrev fnV (f : Nat) : Value := .func (.func f) #[] #[]
set_option maxHeartbeats 1000000 in
theorem fencs_any (w : World) : Calls Tryz.prog 62 #[] w fun e w' => e = .returned (.slice (some ⟨w.heap.size, 0, none⟩) 4 4) ∧ w.alloc (.cells #[fnV 126, fnV 128, fnV 129, fnV 131] 86) = w' := by
  go_enter Tryz.func62, Tryz.ntmps62
  go_wp2
  go_ret
  exact ⟨rfl, rfl⟩

def fencR (k r s i l d p a : Int) (t : ByteArray) : Value :=
  if frE k r s i l d p t ≠ 0 then .tuple #[.string ⟨#[]⟩, .int .i64 (frE k r s i l d p t)]
  else .tuple #[.string (markS ++ strB (bodyL (marL k.toNat r.toNat s.toNat i.toNat l.toNat d.toNat p.toNat a.toNat t))), .int .i64 0]
/-- The message behind i steps. -/
def stepS (m : List Nat) : Nat → ByteArray
  | 0 => strB m
  | 1 => strB (rsEnc m)
  | 2 => strB (frmB (rsEnc m))
  | 3 => strB (cellL m)
  | _ => strB (bodyL m)

set_option maxRecDepth 100000 in
set_option maxHeartbeats 8000000 in
theorem fenc_any (w : World) (k r s i l d p a : Int) (t : ByteArray) (ht : t.size ≤ 1000) (ha : 0 ≤ a ∧ a < 4294967296) :
    Calls Tryz.prog 25 #[frV k r s i l d p a t] w fun e w' => e = .returned (fencR k r s i l d p a t) ∧ Below w.heap.size w w' := by
  obtain ⟨R, hR⟩ : ∃ R, fencR k r s i l d p a t = R := ⟨_, rfl⟩
  rw [hR]
  unfold fencR at hR
  have HMr := Lib.hid (fun W => fmar_any W k r s i l d p a t ht ha)
  have HB := Lib.hid ((Below.refl w.heap.size w).alloc (Nat.le_refl _) (.cells #[.int .i64 k, .int .i64 r, .int .i64 s, .int .i64 i, .int .i64 l, .int .i64 d, .int .i64 p, .int .u32 a, .string t] 26))
  have HZ := Lib.hid (Box9.blk (Blk.new w 26 [.int .i64 k, .int .i64 r, .int .i64 s, .int .i64 i, .int .i64 l, .int .i64 d, .int .i64 p, .int .u32 a, .string t]))
  change Hid (Box9 (w.alloc (.cells #[.int .i64 k, .int .i64 r, .int .i64 s, .int .i64 i, .int .i64 l, .int .i64 d, .int .i64 p, .int .u32 a, .string t] 26)) _ _ _ _ _ _ _ _ _ _) at HZ
  unfold marR at HMr
  by_cases h0 : frE k r s i l d p t = 0
  · rw [if_neg (by simpa using h0)] at hR HMr
    have hmb : Bytes (marL k.toNat r.toNat s.toNat i.toNat l.toNat d.toNat p.toNat a.toNat t) ∧ (marL k.toNat r.toNat s.toNat i.toNat l.toNat d.toNat p.toNat a.toNat t).length = 44 := by
      obtain ⟨h1, h2, h3, h4, h5, h6, h7, h8⟩ := frE_ok h0
      have e : frE (k.toNat : Int) (r.toNat : Int) (s.toNat : Int) (i.toNat : Int) (l.toNat : Int) (d.toNat : Int) (p.toNat : Int) t = 0 := by
        rw [Int.toNat_of_nonneg (by omega), Int.toNat_of_nonneg (by omega), Int.toNat_of_nonneg (by omega), Int.toNat_of_nonneg (by omega), Int.toNat_of_nonneg (by omega), Int.toNat_of_nonneg (by omega), Int.toNat_of_nonneg (by omega)]
        exact h0
      obtain ⟨c, _, _, h9, h10, _, _⟩ := mar_ok (a := a.toNat) e (by omega)
      exact ⟨h9, h10⟩
    obtain ⟨m, hm⟩ : ∃ m, marL k.toNat r.toNat s.toNat i.toNat l.toNat d.toNat p.toNat a.toNat t = m := ⟨_, rfl⟩
    rw [hm] at hR HMr hmb
    obtain ⟨hmB, hml⟩ := hmb
    obtain ⟨hwl, hwB⟩ := rsEnc_ok hmB hml
    have H1 : Hid (∀ W : World, Calls Tryz.prog 126 #[.string (stepS m 0)] W fun e w' => e = .returned (.string (stepS m 1)) ∧ Below W.heap.size W w') := Lib.hid (fun W => by
      have h := fenc1_any W (strB m) (by rw [strB_size, hml])
      rw [bs_strB hmB] at h
      exact h)
    have H2 : Hid (∀ W : World, Calls Tryz.prog 128 #[.string (stepS m 1)] W fun e w' => e = .returned (.string (stepS m 2)) ∧ Below W.heap.size W w') := Lib.hid (fun W => by
      have h := cfrom_any W (strB (rsEnc m)) (by rw [strB_size, hwl]; omega)
      rw [bs_strB hwB] at h
      exact h)
    have H3 : Hid (∀ W : World, Calls Tryz.prog 129 #[.string (stepS m 2)] W fun e w' => e = .returned (.string (stepS m 3)) ∧ Below W.heap.size W w') := Lib.hid (fun W =>
      fenc2_any W (strB (frmB (rsEnc m))) (bitU (rsEnc m)) (by rw [bitsS_bitU, bs_strB]; intro x hx; rcases frmB_01 _ x hx with rfl | rfl <;> decide) (bitU_bits _) (by rw [strB_size, frmB_len, hwl]))
    have H4 : Hid (∀ W : World, Calls Tryz.prog 131 #[.string (stepS m 3)] W fun e w' => e = .returned (.string (stepS m 4)) ∧ Below W.heap.size W w') := Lib.hid (fun W => by
      have h := fenc3_any W (strB (cellL m)) (by rw [strB_size, cellL_len hmB hml])
      rw [bs_strB (fun x hx => by rcases cellL_01 m x hx with rfl | rfl <;> decide)] at h
      exact h)
    have z4 : (stepS m 4).size = 836 := by show (strB (bodyL m)).size = _; rw [strB_size, bodyL_len]
    have zk : markS.size = 16 := by decide
    have hap : ∀ x y : ByteArray, (x ++ y).size = x.size + y.size := fun x y => ByteArray.size_append
    have HR : Hid (Value.tuple #[.string (markS ++ stepS m 4), .int .i64 0] = R) := Lib.hid hR
    have HMr2 : Hid (∀ W : World, Calls Tryz.prog 32 #[frV k r s i l d p a t] W fun e w' => e = .returned (.tuple #[.string (stepS m 0), .int .i64 0]) ∧ Below W.heap.size W w') := Lib.hid HMr.out
    clear hR h0 hm hmB hml hwl hwB HMr ht ha
    have HK : Hid (∀ W : World, Calls Tryz.prog 63 #[] W fun e w' => e = .returned (.string markS) ∧ W = w') := Lib.hid (fun W => mark_any W)
    generalize hS : stepS m = S at *
    clear hS
    generalize markS = K at *
    unfold frV at HMr2 ⊢
    go_enter Tryz.func25, Tryz.ntmps25
    go_upto_region 1 with fail
    generalize w.alloc (.cells #[.int .i64 k, .int .i64 r, .int .i64 s, .int .i64 i, .int .i64 l, .int .i64 d, .int .i64 p, .int .u32 a, .string t] 26) = wz at *
    obtain ⟨c0, c1, c2, c3, c4, c5, c6, c7, c8⟩ := HZ.out
    go_upto_region 5 with (first | (go_at_call 32; refine (HMr2.out _).mono ?_; rintro e w1 ⟨rfl, hb1⟩) | (go_at_call 62; refine (fencs_any _).mono ?_; rintro e w2 ⟨rfl, rfl⟩))
    have hA : Below w1.heap.size w1 (w1.alloc (.cells #[fnV 126, fnV 128, fnV 129, fnV 131] 86)) := (Below.refl _ _).alloc (Nat.le_refl _) _
    have HB1 := Lib.hid (HB.out.trans ((hb1.trans (hA.mono hb1.size)).mono HB.out.size))
    have HF0 := Lib.hid (Blk.new w1 86 [fnV 126, fnV 128, fnV 129, fnV 131])
    change Hid (Blk (w1.alloc (.cells #[fnV 126, fnV 128, fnV 129, fnV 131] 86)) _ _ _) at HF0
    clear hb1 hA HZ HB HMr2 c0 c1 c2 c3 c4 c5 c6 c7 c8
    generalize w1.alloc (.cells #[fnV 126, fnV 128, fnV 129, fnV 131] 86) = w2 at *
    generalize w1.heap.size = g at *
    go_loopw [4, 18] (fun v x wr => ∃ i : Nat, i ≤ 4 ∧ x = .int .i64 (i : Int) ∧ v = .string (S i) ∧ Blk wr g 86 [fnV 126, fnV 128, fnV 129, fnV 131] ∧ Below w.heap.size w wr) (fun _ x _ => 4 - (intOf x).toNat)
    case atStart => exact ⟨0, by omega, rfl, rfl, HF0.out, HB1.out⟩
    case round =>
      obtain ⟨i, hi, rfl, rfl, hf, hbw⟩ := hrel
      have HF := Lib.hid hf
      have HBw := Lib.hid hbw
      clear HF0 HB1
      rcases (by omega : i = 0 ∨ i = 1 ∨ i = 2 ∨ i = 3 ∨ i = 4) with rfl | rfl | rfl | rfl | rfl
      · have c0 := hf.cell (i := 0) rfl
        clear hf hbw
        go_wp2_with (go_at_call 126; refine (H1.out _).mono ?_; rintro e w2 ⟨rfl, hb2⟩)
        go_roundw
        case rel => exact ⟨1, by omega, rfl, rfl, HF.out.kept hb2, HBw.out.trans (hb2.mono HBw.out.size)⟩
        case measure => simp [intOf]
      · have c1 := hf.cell (i := 1) rfl
        clear hf hbw
        go_wp2_with (go_at_call 128; refine (H2.out _).mono ?_; rintro e w2 ⟨rfl, hb2⟩)
        go_roundw
        case rel => exact ⟨2, by omega, rfl, rfl, HF.out.kept hb2, HBw.out.trans (hb2.mono HBw.out.size)⟩
        case measure => simp [intOf]
      · have c2 := hf.cell (i := 2) rfl
        clear hf hbw
        go_wp2_with (go_at_call 129; refine (H3.out _).mono ?_; rintro e w2 ⟨rfl, hb2⟩)
        go_roundw
        case rel => exact ⟨3, by omega, rfl, rfl, HF.out.kept hb2, HBw.out.trans (hb2.mono HBw.out.size)⟩
        case measure => simp [intOf]
      · have c3 := hf.cell (i := 3) rfl
        clear hf hbw
        go_wp2_with (go_at_call 131; refine (H4.out _).mono ?_; rintro e w2 ⟨rfl, hb2⟩)
        go_roundw
        case rel => exact ⟨4, by omega, rfl, rfl, HF.out.kept hb2, HBw.out.trans (hb2.mono HBw.out.size)⟩
        case measure => simp [intOf]
      · clear hf hbw
        go_wp2_with (go_at_call 63; refine (HK.out _).mono ?_; rintro e w2 ⟨rfl, rfl⟩)
        rw [← HR.out]
        exact bodyPost_ret (v := .tuple #[.string (K ++ S 4), .int .i64 0]) (by simp [results, Tryz.results25, go_sem]) rfl ⟨rfl, HBw.out⟩
  · have h1 : (frE k r s i l d p t != 0) = true := by simpa using h0
    rw [if_pos h0] at hR HMr
    obtain ⟨E, hE⟩ : ∃ E, frE k r s i l d p t = E := ⟨_, rfl⟩
    rw [hE] at hR HMr h1
    have HR := Lib.hid hR
    clear hR h0 hE ht ha
    unfold frV at HMr ⊢
    go_enter Tryz.func25, Tryz.ntmps25
    go_upto_region 1 with fail
    generalize w.alloc (.cells #[.int .i64 k, .int .i64 r, .int .i64 s, .int .i64 i, .int .i64 l, .int .i64 d, .int .i64 p, .int .u32 a, .string t] 26) = wz at *
    obtain ⟨c0, c1, c2, c3, c4, c5, c6, c7, c8⟩ := HZ.out
    go_wp2_with (go_at_call 32; refine (HMr.out _).mono ?_; rintro e w1 ⟨rfl, hb1⟩)
    rw [← HR.out]
    exact bodyPost_ret (v := .tuple #[.string ⟨#[]⟩, .int .i64 E]) (by simp [results, Tryz.results25, go_sem]) rfl ⟨rfl, HB.out.trans (hb1.mono HB.out.size)⟩

end Go.Proofs.YtjennpcadjdnlaaGreatDoor
