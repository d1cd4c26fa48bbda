/-
 WALKS: frame.encoding and its steps, frame.Encode.
 PLAIN: what a valid frame is encoded as.
 WALKS: frame.Check, Marshal, Encode at any payload.
-/
import Derived.Test.YtnlnmfkmbpihhaaGreatDoorFrE
import Derived.Test.YtnlnmfkmbpihhaaGreatDoorEncD
import Derived.Test.YtnlnmfkmbpihhaaGreatDoorEncC
import Derived.Test.YtnlnmfkmbpihhaaGreatDoorEncA
namespace Go.Proofs.YtnlnmfkmbpihhaaGreatDoor
open Go.RowKit

set_option maxHeartbeats 1000000 in
theorem fenc1_any (w : World) (s : ByteArray) (hs : s.size = 44) : Calls Tryz.prog 211 #[.string s] w fun e w' => e = .returned (.string (strB (rsEnc (bs s)))) ∧ Below w.heap.size w w' := by
 have H := Lib.hid (rsencode_any w s hs)
 clear hs
 go_enter Tryz.func211, Tryz.ntmps211
 go_wp2_with (go_at_call 212; refine H.out.mono ?_; rintro e w' ⟨rfl, hb⟩)
 go_ret
 exact ⟨rfl, hb⟩
set_option maxHeartbeats 1000000 in
theorem fenc2_any (w : World) (s : ByteArray) (u : List Nat) (hs : bs s = bitsS u) (hu : Bits u) (hz : s.size = 416) : Calls Tryz.prog 214 #[.string s] w fun e w' => e = .returned (.string (strB (cenc 0 (u ++ [0, 0])))) ∧ Below w.heap.size w w' := by
 have H := Lib.hid (venc_any w s u hs hu hz)
 clear hs hu hz
 go_enter Tryz.func214, Tryz.ntmps214
 go_wp2_with (go_at_call 215; refine H.out.mono ?_; rintro e w' ⟨rfl, hb⟩)
 go_ret
 exact ⟨rfl, hb⟩
set_option maxHeartbeats 1000000 in
theorem fenc3_any (w : World) (s : ByteArray) (hs : s.size = 836) : Calls Tryz.prog 216 #[.string s] w fun e w' => e = .returned (.string (strB (interL (bs s)))) ∧ Below w.heap.size w w' := by
 have H := Lib.hid (inter_any w s hs)
 clear hs
 go_enter Tryz.func216, Tryz.ntmps216
 go_wp2_with (go_at_call 217; refine H.out.mono ?_; rintro e w' ⟨rfl, hb⟩)
 go_ret
 exact ⟨rfl, hb⟩
abbrev fnV (f : Nat) : Value := .func (.func f) #[] #[]
set_option maxHeartbeats 1000000 in
theorem fencs_any (w : World) : Calls Tryz.prog 150 #[] w fun e w' => e = .returned (.slice (some ⟨w.heap.size, 0, none⟩) 4 4) ∧ w.alloc (.cells #[fnV 211, fnV 213, fnV 214, fnV 216] 122) = w' := by
 go_enter Tryz.func150, Tryz.ntmps150
 go_wp2
 go_ret
 exact ⟨rfl, rfl⟩

def fencR (k r s i l d p a : Int) (t : ByteArray) : Value :=
 if frE k r s i l d p t ≠ 0 then .tuple #[.string ⟨#[]⟩, .int .i64 (frE k r s i l d p t)]
 else .tuple #[.string (markS ++ strB (bodyL (marL k.toNat r.toNat s.toNat i.toNat l.toNat d.toNat p.toNat a.toNat t))), .int .i64 0]
/-- The message behind i steps. -/
def stepS (m : List Nat) : Nat → ByteArray
 | 0 => strB m
 | 1 => strB (rsEnc m)
 | 2 => strB (frmB (rsEnc m))
 | 3 => strB (cellL m)
 | _ => strB (bodyL m)

set_option maxRecDepth 100000 in
set_option maxHeartbeats 8000000 in
theorem fenc_any (w : World) (k r s i l d p a : Int) (t : ByteArray) (ht : t.size ≤ 1000) (ha : 0 ≤ a ∧ a < 4294967296) :
  Calls Tryz.prog 85 #[frV k r s i l d p a t] w fun e w' => e = .returned (fencR k r s i l d p a t) ∧ Below w.heap.size w w' := by
 obtain ⟨R, hR⟩ : ∃ R, fencR k r s i l d p a t = R := ⟨_, rfl⟩
 rw [hR]
 unfold fencR at hR
 have HMr := Lib.hid (fun W => fmar_any W k r s i l d p a t ht ha)
 have HB := Lib.hid ((Below.refl w.heap.size w).alloc (Nat.le_refl _) (.cells #[.int .i64 k, .int .i64 r, .int .i64 s, .int .i64 i, .int .i64 l, .int .i64 d, .int .i64 p, .int .u32 a, .string t] 34))
 have HZ := Lib.hid (Box9.blk (Blk.new w 34 [.int .i64 k, .int .i64 r, .int .i64 s, .int .i64 i, .int .i64 l, .int .i64 d, .int .i64 p, .int .u32 a, .string t]))
 change Hid (Box9 (w.alloc (.cells #[.int .i64 k, .int .i64 r, .int .i64 s, .int .i64 i, .int .i64 l, .int .i64 d, .int .i64 p, .int .u32 a, .string t] 34)) _ _ _ _ _ _ _ _ _ _) at HZ
 unfold marR at HMr
 by_cases h0 : frE k r s i l d p t = 0
 ·rw [if_neg (by simpa using h0)] at hR HMr
  have hmb : Bytes (marL k.toNat r.toNat s.toNat i.toNat l.toNat d.toNat p.toNat a.toNat t) ∧ (marL k.toNat r.toNat s.toNat i.toNat l.toNat d.toNat p.toNat a.toNat t).length = 44 := by
   obtain ⟨h1, h2, h3, h4, h5, h6, h7, h8⟩ := frE_ok h0
   have e : frE (k.toNat : Int) (r.toNat : Int) (s.toNat : Int) (i.toNat : Int) (l.toNat : Int) (d.toNat : Int) (p.toNat : Int) t = 0 := by
    rw [Int.toNat_of_nonneg (by omega), Int.toNat_of_nonneg (by omega), Int.toNat_of_nonneg (by omega), Int.toNat_of_nonneg (by omega), Int.toNat_of_nonneg (by omega), Int.toNat_of_nonneg (by omega), Int.toNat_of_nonneg (by omega)]
    exact h0
   obtain ⟨c, _, _, h9, h10, _, _⟩ := mar_ok (a := a.toNat) e (by omega)
   exact ⟨h9, h10⟩
  obtain ⟨m, hm⟩ : ∃ m, marL k.toNat r.toNat s.toNat i.toNat l.toNat d.toNat p.toNat a.toNat t = m := ⟨_, rfl⟩
  rw [hm] at hR HMr hmb
  obtain ⟨hmB, hml⟩ := hmb
  obtain ⟨hwl, hwB⟩ := rsEnc_ok hmB hml
  have H1 : Hid (∀ W : World, Calls Tryz.prog 211 #[.string (stepS m 0)] W fun e w' => e = .returned (.string (stepS m 1)) ∧ Below W.heap.size W w') := Lib.hid (fun W => by
   have h := fenc1_any W (strB m) (by rw [strB_size, hml])
   rw [bs_strB hmB] at h
   exact h)
  have H2 : Hid (∀ W : World, Calls Tryz.prog 213 #[.string (stepS m 1)] W fun e w' => e = .returned (.string (stepS m 2)) ∧ Below W.heap.size W w') := Lib.hid (fun W => by
   have h := cfrom_any W (strB (rsEnc m)) (by rw [strB_size, hwl]; omega)
   rw [bs_strB hwB] at h
   exact h)
  have H3 : Hid (∀ W : World, Calls Tryz.prog 214 #[.string (stepS m 2)] W fun e w' => e = .returned (.string (stepS m 3)) ∧ Below W.heap.size W w') := Lib.hid (fun W =>
   fenc2_any W (strB (frmB (rsEnc m))) (bitU (rsEnc m)) (by rw [bitsS_bitU, bs_strB]; intro x hx; rcases frmB_01 _ x hx with rfl | rfl <;> decide) (bitU_bits _) (by rw [strB_size, frmB_len, hwl]))
  have H4 : Hid (∀ W : World, Calls Tryz.prog 216 #[.string (stepS m 3)] W fun e w' => e = .returned (.string (stepS m 4)) ∧ Below W.heap.size W w') := Lib.hid (fun W => by
   have h := fenc3_any W (strB (cellL m)) (by rw [strB_size, cellL_len hmB hml])
   rw [bs_strB (fun x hx => by rcases cellL_01 m x hx with rfl | rfl <;> decide)] at h
   exact h)
  have z4 : (stepS m 4).size = 836 := by show (strB (bodyL m)).size = _; rw [strB_size, bodyL_len]
  have zk : markS.size = 16 := by decide
  have hap : ∀ x y : ByteArray, (x ++ y).size = x.size + y.size := fun x y => ByteArray.size_append
  have HR : Hid (Value.tuple #[.string (markS ++ stepS m 4), .int .i64 0] = R) := Lib.hid hR
  have HMr2 : Hid (∀ W : World, Calls Tryz.prog 149 #[frV k r s i l d p a t] W fun e w' => e = .returned (.tuple #[.string (stepS m 0), .int .i64 0]) ∧ Below W.heap.size W w') := Lib.hid HMr.out
  clear hR h0 hm hmB hml hwl hwB HMr ht ha
  have HK : Hid (∀ W : World, Calls Tryz.prog 151 #[] W fun e w' => e = .returned (.string markS) ∧ W = w') := Lib.hid (fun W => mark_any W)
  generalize hS : stepS m = S at *
  clear hS
  generalize markS = K at *
  unfold frV at HMr2 ⊢
  go_enter Tryz.func85, Tryz.ntmps85
  go_upto_region 1 with fail
  generalize w.alloc (.cells #[.int .i64 k, .int .i64 r, .int .i64 s, .int .i64 i, .int .i64 l, .int .i64 d, .int .i64 p, .int .u32 a, .string t] 34) = wz at *
  obtain ⟨c0, c1, c2, c3, c4, c5, c6, c7, c8⟩ := HZ.out
  go_upto_region 5 with (first | (go_at_call 149; refine (HMr2.out _).mono ?_; rintro e w1 ⟨rfl, hb1⟩) | (go_at_call 150; refine (fencs_any _).mono ?_; rintro e w2 ⟨rfl, rfl⟩))
  have hA : Below w1.heap.size w1 (w1.alloc (.cells #[fnV 211, fnV 213, fnV 214, fnV 216] 122)) := (Below.refl _ _).alloc (Nat.le_refl _) _
  have HB1 := Lib.hid (HB.out.trans ((hb1.trans (hA.mono hb1.size)).mono HB.out.size))
  have HF0 := Lib.hid (Blk.new w1 122 [fnV 211, fnV 213, fnV 214, fnV 216])
  change Hid (Blk (w1.alloc (.cells #[fnV 211, fnV 213, fnV 214, fnV 216] 122)) _ _ _) at HF0
  clear hb1 hA HZ HB HMr2 c0 c1 c2 c3 c4 c5 c6 c7 c8
  generalize w1.alloc (.cells #[fnV 211, fnV 213, fnV 214, fnV 216] 122) = w2 at *
  generalize w1.heap.size = g at *
  go_loopw [4, 18] (fun v x wr => ∃ i : Nat, i ≤ 4 ∧ x = .int .i64 (i : Int) ∧ v = .string (S i) ∧ Blk wr g 122 [fnV 211, fnV 213, fnV 214, fnV 216] ∧ Below w.heap.size w wr) (fun _ x _ => 4 - (intOf x).toNat)
  case atStart => exact ⟨0, by omega, rfl, rfl, HF0.out, HB1.out⟩
  case round =>
   obtain ⟨i, hi, rfl, rfl, hf, hbw⟩ := hrel
   have HF := Lib.hid hf
   have HBw := Lib.hid hbw
   clear HF0 HB1
   rcases (by omega : i = 0 ∨ i = 1 ∨ i = 2 ∨ i = 3 ∨ i = 4) with rfl | rfl | rfl | rfl | rfl
   ·have c0 := hf.cell (i := 0) rfl
    clear hf hbw
    go_wp2_with (go_at_call 211; refine (H1.out _).mono ?_; rintro e w2 ⟨rfl, hb2⟩)
    go_roundw
    case rel => exact ⟨1, by omega, rfl, rfl, HF.out.kept hb2, HBw.out.trans (hb2.mono HBw.out.size)⟩
    case measure => simp [intOf]
   ·have c1 := hf.cell (i := 1) rfl
    clear hf hbw
    go_wp2_with (go_at_call 213; refine (H2.out _).mono ?_; rintro e w2 ⟨rfl, hb2⟩)
    go_roundw
    case rel => exact ⟨2, by omega, rfl, rfl, HF.out.kept hb2, HBw.out.trans (hb2.mono HBw.out.size)⟩
    case measure => simp [intOf]
   ·have c2 := hf.cell (i := 2) rfl
    clear hf hbw
    go_wp2_with (go_at_call 214; refine (H3.out _).mono ?_; rintro e w2 ⟨rfl, hb2⟩)
    go_roundw
    case rel => exact ⟨3, by omega, rfl, rfl, HF.out.kept hb2, HBw.out.trans (hb2.mono HBw.out.size)⟩
    case measure => simp [intOf]
   ·have c3 := hf.cell (i := 3) rfl
    clear hf hbw
    go_wp2_with (go_at_call 216; refine (H4.out _).mono ?_; rintro e w2 ⟨rfl, hb2⟩)
    go_roundw
    case rel => exact ⟨4, by omega, rfl, rfl, HF.out.kept hb2, HBw.out.trans (hb2.mono HBw.out.size)⟩
    case measure => simp [intOf]
   ·clear hf hbw
    go_wp2_with (go_at_call 151; refine (HK.out _).mono ?_; rintro e w2 ⟨rfl, rfl⟩)
    rw [← HR.out]
    exact bodyPost_ret (v := .tuple #[.string (K ++ S 4), .int .i64 0]) (by simp [results, Tryz.results85, go_sem]) rfl ⟨rfl, HBw.out⟩
 ·have h1 : (frE k r s i l d p t != 0) = true := by simpa using h0
  rw [if_pos h0] at hR HMr
  obtain ⟨E, hE⟩ : ∃ E, frE k r s i l d p t = E := ⟨_, rfl⟩
  rw [hE] at hR HMr h1
  have HR := Lib.hid hR
  clear hR h0 hE ht ha
  unfold frV at HMr ⊢
  go_enter Tryz.func85, Tryz.ntmps85
  go_upto_region 1 with fail
  generalize w.alloc (.cells #[.int .i64 k, .int .i64 r, .int .i64 s, .int .i64 i, .int .i64 l, .int .i64 d, .int .i64 p, .int .u32 a, .string t] 34) = wz at *
  obtain ⟨c0, c1, c2, c3, c4, c5, c6, c7, c8⟩ := HZ.out
  go_wp2_with (go_at_call 149; refine (HMr.out _).mono ?_; rintro e w1 ⟨rfl, hb1⟩)
  rw [← HR.out]
  exact bodyPost_ret (v := .tuple #[.string ⟨#[]⟩, .int .i64 E]) (by simp [results, Tryz.results85, go_sem]) rfl ⟨rfl, HB.out.trans (hb1.mono HB.out.size)⟩

end Go.Proofs.YtnlnmfkmbpihhaaGreatDoor

namespace Go.Proofs.YtnlnmfkmbpihhaaGreatDoor
open Go.RowKit

/-- What a valid frame is encoded as. -/
theorem valid_parts {k r s i l d p a : Int} {t : ByteArray} (h : frE k r s i l d p t = 0) (ha : 0 ≤ a ∧ a < 4294967296) :
  ∃ (m : List Nat), Bytes m ∧ m.length = 44 ∧ marR k r s i l d p a t = .tuple #[.string (strB m), .int .i64 0] ∧ unmR (strB m) = .tuple #[frV k r s i l d p a t, .int .i64 0] ∧
   fencR k r s i l d p a t = .tuple #[.string (markS ++ strB (bodyL m)), .int .i64 0] ∧ decR (strB (bodyL m)) = .tuple #[frV k r s i l d p a t, zeroQ, .int .i64 0] ∧ unmC (strB m) = 0 ∧ unmF (strB m) = frV k r s i l d p a t := by
 obtain ⟨h1, h2, h3, h4, h5, h6, h7, h8⟩ := frE_ok h
 obtain ⟨k, rfl⟩ : ∃ n : Nat, k = n := ⟨k.toNat, by omega⟩
 obtain ⟨r, rfl⟩ : ∃ n : Nat, r = n := ⟨r.toNat, by omega⟩
 obtain ⟨s, rfl⟩ : ∃ n : Nat, s = n := ⟨s.toNat, by omega⟩
 obtain ⟨i, rfl⟩ : ∃ n : Nat, i = n := ⟨i.toNat, by omega⟩
 obtain ⟨l, rfl⟩ : ∃ n : Nat, l = n := ⟨l.toNat, by omega⟩
 obtain ⟨d, rfl⟩ : ∃ n : Nat, d = n := ⟨d.toNat, by omega⟩
 obtain ⟨p, rfl⟩ : ∃ n : Nat, p = n := ⟨p.toNat, by omega⟩
 obtain ⟨a, rfl⟩ : ∃ n : Nat, a = n := ⟨a.toNat, by omega⟩
 obtain ⟨_, _, _, hb, hl, _, _⟩ := mar_ok h (a := a) (by omega)
 obtain ⟨hc, hf⟩ := unm_mar h (a := a) (by omega)
 refine ⟨marL k r s i l d p a t, hb, hl, ?_, ?_, ?_, ?_, hc, hf⟩
 ·unfold marR; rw [h, if_neg (by simp)]; simp
 ·rw [unmR_eq, hc, if_pos rfl, hf]
 ·unfold fencR; rw [h, if_neg (by simp)]; simp
 ·rw [dec_body hb hl hc, hf]
theorem mark_size : markS.size = 16 := by decide
theorem mark_drop (b : ByteArray) (n : Nat) (h : n = 16 + b.size) : (markS ++ b).extract 16 n = b := by
 refine bs_inj ?_
 have e : bs (markS ++ b) = bs markS ++ bs b := by
  rw [← strB_bs markS, ← strB_bs b, strB_cat, bs_strB, bs_strB (fun x hx => bs_lt _ x hx), bs_strB (fun x hx => bs_lt _ x hx)]
  intro x hx
  rcases List.mem_append.1 hx with hx | hx
  ·exact bs_lt _ x hx
  ·exact bs_lt _ x hx
 rw [bs_extract, e, List.take_of_length_le (by rw [List.length_append, bs_len, bs_len, mark_size, h]; exact Nat.le_refl _), show (16 : Nat) = (bs markS).length by rw [bs_len, mark_size], List.drop_left]


abbrev Box3 (W : World) (H : Nat) (c0 c1 c2 : Value) : Prop := W.cell? ⟨H, 0, none⟩ = some c0 ∧ W.cell? ⟨H, 1, none⟩ = some c1 ∧ W.cell? ⟨H, 2, none⟩ = some c2
theorem Box3.keep {A B : World} {H : Nat} {c0 c1 c2 : Value} (h : Box3 A H c0 c1 c2) (hb : Below A.heap.size A B) : Box3 B H c0 c1 c2 := by
 obtain ⟨h0, h1, h2⟩ := h
 exact ⟨cell_below hb h0, cell_below hb h1, cell_below hb h2⟩
/-- A decoded frame and its quality, laid. -/
def FQ (V : World) (g : Nat) (k r s i l d p a : Int) (t : ByteArray) (x y z : Int) : Prop :=
 Box9 V g (.int .i64 k) (.int .i64 r) (.int .i64 s) (.int .i64 i) (.int .i64 l) (.int .i64 d) (.int .i64 p) (.int .u32 a) (.string t) ∧ Box3 V (g + 1) (.int .i64 x) (.int .i64 y) (.int .i64 z)
theorem FQ.keep {A B : World} {g : Nat} {k r s i l d p a : Int} {t : ByteArray} {x y z : Int} (h : FQ A g k r s i l d p a t x y z) (hb : Below A.heap.size A B) : FQ B g k r s i l d p a t x y z :=
 ⟨h.1.keep hb, h.2.keep hb⟩
theorem decd_new (W : World) (k r s i l d p a : Int) (t : ByteArray) (x y z : Int) :
  Below W.heap.size W ((W.alloc (.cells #[.int .i64 k, .int .i64 r, .int .i64 s, .int .i64 i, .int .i64 l, .int .i64 d, .int .i64 p, .int .u32 a, .string t] 34)).alloc (.cells #[.int .i64 x, .int .i64 y, .int .i64 z] 36)) ∧
   FQ ((W.alloc (.cells #[.int .i64 k, .int .i64 r, .int .i64 s, .int .i64 i, .int .i64 l, .int .i64 d, .int .i64 p, .int .u32 a, .string t] 34)).alloc (.cells #[.int .i64 x, .int .i64 y, .int .i64 z] 36)) W.heap.size k r s i l d p a t x y z := by
 refine ⟨((Below.refl _ _).alloc (Nat.le_refl _) _).alloc (by simp) _, ?_, ?_⟩
 ·exact (Box9.blk (Blk.new W 34 [.int .i64 k, .int .i64 r, .int .i64 s, .int .i64 i, .int .i64 l, .int .i64 d, .int .i64 p, .int .u32 a, .string t])).keep ((Below.refl _ _).alloc (Nat.le_refl _) _)
 ·have hq := Blk.new (W.alloc (.cells #[.int .i64 k, .int .i64 r, .int .i64 s, .int .i64 i, .int .i64 l, .int .i64 d, .int .i64 p, .int .u32 a, .string t] 34)) 36 [.int .i64 x, .int .i64 y, .int .i64 z]
  rw [show (W.alloc (.cells #[.int .i64 k, .int .i64 r, .int .i64 s, .int .i64 i, .int .i64 l, .int .i64 d, .int .i64 p, .int .u32 a, .string t] 34)).heap.size = W.heap.size + 1 by simp] at hq
  exact ⟨hq.cell (i := 0) rfl, hq.cell (i := 1) rfl, hq.cell (i := 2) rfl⟩


end Go.Proofs.YtnlnmfkmbpihhaaGreatDoor

namespace Go.Proofs.YtnlnmfkmbpihhaaGreatDoor
open Go.RowKit

set_option maxRecDepth 100000 in
set_option maxHeartbeats 8000000 in
theorem fcheck_all (w : World) (k r s i l d p a : Int) (t : ByteArray) :
  Calls Tryz.prog 117 #[frV k r s i l d p a t] w fun e w' => e = .returned (.int .i64 (frE k r s i l d p t)) ∧ Below w.heap.size w w' := by
 obtain ⟨X, hX⟩ : ∃ X, frE k r s i l d p t = X := ⟨_, rfl⟩
 rw [hX]
 unfold frE at hX
 unfold frV
 cases h1 : ((k != 66) && (k != 68)) with
 | true =>
  rw [h1, if_pos rfl] at hX
  subst hX
  rw [Bool.and_eq_true] at h1
  obtain ⟨h1, h2⟩ := h1
  go_enter Tryz.func117, Tryz.ntmps117
  go_wp2
  go_ret
  exact ⟨rfl, ((Below.refl _ _).alloc (Nat.le_refl _) _).alloc (by simp) _⟩
 | false =>
  rw [h1, if_neg (by simp)] at hX
  have hk : (k != 66) = false ∨ ((k != 66) = true ∧ (k != 68) = false) := by
   cases h2 : (k != 66) with
   | false => exact .inl rfl
   | true => rw [h2] at h1; exact .inr ⟨rfl, by simpa using h1⟩
  have HW : Hid (∀ W n lo hi, Calls Tryz.prog 177 #[.int .i64 n, .int .i64 lo, .int .i64 hi] W fun e w' => e = .returned (.bool (inR n lo hi)) ∧ W = w') := Lib.hid (fun W n lo hi => within_any W n lo hi _ rfl)
  have hB : Below w.heap.size w ((w.alloc (.cells #[.int .i64 k, .int .i64 r, .int .i64 s, .int .i64 i, .int .i64 l, .int .i64 d, .int .i64 p, .int .u32 a, .string t] 34)).alloc (.cells #[.int .i64 d, .int .i64 p] 31)) := ((Below.refl _ _).alloc (Nat.le_refl _) _).alloc (by simp) _
  have HB := Lib.hid hB
  clear h1 hB
  cases hd : inR d 1 8 with
  | false =>
   rw [hd, if_pos (by rfl)] at hX
   subst hX
   rcases hk with hk | ⟨hk, hk2⟩
   all_goals
    go_enter Tryz.func117, Tryz.ntmps117
    go_wp2_with (go_at_call 177; refine (HW.out _ _ _ _).mono ?_; rintro e w' ⟨rfl, rfl⟩)
    go_ret
    exact ⟨rfl, HB.out⟩
  | true =>
  cases hp : inR p 0 7 with
  | false =>
   rw [hd, hp, if_pos (by rfl)] at hX
   subst hX
   rcases hk with hk | ⟨hk, hk2⟩
   all_goals
    go_enter Tryz.func117, Tryz.ntmps117
    go_wp2_with (go_at_call 177; refine (HW.out _ _ _ _).mono ?_; rintro e w' ⟨rfl, rfl⟩)
    go_ret
    exact ⟨rfl, HB.out⟩
  | true =>
  rw [hd, hp, if_neg (by decide)] at hX
  have hdI : 1 ≤ d ∧ d ≤ 8 := by simpa [inR] using hd
  have hpI : 0 ≤ p ∧ p ≤ 7 := by simpa [inR] using hp
  have ew1 : IntKind.i64.wrap (d + p) = d + p := by rw [IntKind.wrap_i64]; omega
  have ew2 : IntKind.i64.wrap (d + p - 1) = d + p - 1 := by rw [IntKind.wrap_i64]; omega
  clear hdI hpI
  cases hr : inR r 0 (d + p - 1) with
  | false =>
   rw [hr, if_pos (by simp)] at hX
   subst hX
   rcases hk with hk | ⟨hk, hk2⟩
   all_goals
    go_enter Tryz.func117, Tryz.ntmps117
    go_wp2_with (go_at_call 177; refine (HW.out _ _ _ _).mono ?_; rintro e w' ⟨rfl, rfl⟩)
    go_ret
    exact ⟨rfl, HB.out⟩
  | true =>
  cases hs : inR s 1 255 with
  | false =>
   rw [hr, hs, if_pos (by simp)] at hX
   subst hX
   rcases hk with hk | ⟨hk, hk2⟩
   all_goals
    go_enter Tryz.func117, Tryz.ntmps117
    go_wp2_with (go_at_call 177; refine (HW.out _ _ _ _).mono ?_; rintro e w' ⟨rfl, rfl⟩)
    go_ret
    exact ⟨rfl, HB.out⟩
  | true =>
  cases hi : inR i 0 65535 with
  | false =>
   rw [hr, hs, hi, if_pos (by simp)] at hX
   subst hX
   rcases hk with hk | ⟨hk, hk2⟩
   all_goals
    go_enter Tryz.func117, Tryz.ntmps117
    go_wp2_with (go_at_call 177; refine (HW.out _ _ _ _).mono ?_; rintro e w' ⟨rfl, rfl⟩)
    go_ret
    exact ⟨rfl, HB.out⟩
  | true =>
  cases hl : inR l 0 28 with
  | false =>
   rw [hr, hs, hi, hl, if_pos (by simp)] at hX
   subst hX
   rcases hk with hk | ⟨hk, hk2⟩
   all_goals
    go_enter Tryz.func117, Tryz.ntmps117
    go_wp2_with (go_at_call 177; refine (HW.out _ _ _ _).mono ?_; rintro e w' ⟨rfl, rfl⟩)
    go_ret
    exact ⟨rfl, HB.out⟩
  | true =>
  rw [hr, hs, hi, hl, if_neg (by decide)] at hX
  have hlI : 0 ≤ l ∧ l ≤ 28 := by simpa [inR] using hl
  cases hn : ((t.size : Int) != 28) with
  | true =>
   rw [hn, if_pos (by simp)] at hX
   subst hX
   clear hlI
   rcases hk with hk | ⟨hk, hk2⟩
   all_goals
    go_enter Tryz.func117, Tryz.ntmps117
    go_wp2_with (go_at_call 177; refine (HW.out _ _ _ _).mono ?_; rintro e w' ⟨rfl, rfl⟩)
    go_ret
    exact ⟨rfl, HB.out⟩
  | false =>
  have hn2 : (t.size : Int) = 28 := by simpa using hn
  have hn3 : t.size = 28 := by omega
  obtain ⟨m, rfl⟩ : ∃ m : Nat, l = m := ⟨l.toNat, by omega⟩
  have HT := trim_any
  have hX2 : X = if allIn [0] (bs (t.extract m 28)) = true then 0 else 1 := by
   rw [← hX, hn]
   have e : bs (t.extract m 28) = (bs t).drop m := by rw [bs_extract, List.take_of_length_le (by rw [bs_len]; omega)]
   unfold padOK
   rw [e, Int.toNat_natCast]
   cases allIn [0] ((bs t).drop m) <;> rfl
  have Ht : Hid (∀ W, Calls Tryz.prog 89 #[.string (t.extract m 28), .string ⟨#[0]⟩] W fun e w' => ∃ u, e = .returned (.string u) ∧ u.toList.isEmpty = allIn [0] (bs (t.extract m 28)) ∧ Below W.heap.size W w') := Lib.hid (fun W => trim_any W (t.extract m 28) ⟨#[0]⟩ (by rw [ByteArray.size_extract]; omega) (by decide) (by decide))
  have hm0 : (0 : Int) ≤ m := by omega
  have hm1 : (m : Int) ≤ 28 := by omega
  have hm2 : m ≤ 28 := by omega
  clear hX hlI HT
  cases hz : allIn [0] (bs (t.extract m 28)) with
  | true =>
   rw [hz, if_pos rfl] at hX2
   rw [hz] at Ht
   subst hX2
   clear hz
   rcases hk with hk | ⟨hk, hk2⟩
   all_goals
    go_enter Tryz.func117, Tryz.ntmps117
    go_wp2_with (first | (go_at_call 177; refine (HW.out _ _ _ _).mono ?_; rintro e w' ⟨rfl, rfl⟩) | (go_at_call 89; refine (Ht.out _).mono ?_; rintro e w' ⟨u, rfl, hu, hb⟩))
    go_ret
    exact ⟨rfl, HB.out.trans (hb.mono HB.out.size)⟩
  | false =>
   rw [hz, if_neg (by simp)] at hX2
   rw [hz] at Ht
   subst hX2
   clear hz
   rcases hk with hk | ⟨hk, hk2⟩
   all_goals
    go_enter Tryz.func117, Tryz.ntmps117
    go_wp2_with (first | (go_at_call 177; refine (HW.out _ _ _ _).mono ?_; rintro e w' ⟨rfl, rfl⟩) | (go_at_call 89; refine (Ht.out _).mono ?_; rintro e w' ⟨u, rfl, hu, hb⟩))
    go_ret
    exact ⟨rfl, HB.out.trans (hb.mono HB.out.size)⟩

theorem frE_big {k r s i l d p : Int} {t : ByteArray} (h : 28 < t.size) : (frE k r s i l d p t != 0) = true := by
 cases h0 : (frE k r s i l d p t != 0) with
 | true => rfl
 | false =>
  rw [bne_eq_false_iff_eq] at h0
  obtain ⟨_, _, _, _, _, _, _, h8⟩ := frE_ok h0
  omega
set_option maxRecDepth 100000 in
set_option maxHeartbeats 8000000 in
theorem fmar_all (w : World) (k r s i l d p a : Int) (t : ByteArray) (ha : 0 ≤ a ∧ a < 4294967296) :
  Calls Tryz.prog 149 #[frV k r s i l d p a t] w fun e w' => e = .returned (marR k r s i l d p a t) ∧ Below w.heap.size w w' := by
 by_cases hb : t.size ≤ 1000
 ·exact fmar_any w k r s i l d p a t hb ha
 ·have h1 := frE_big (k := k) (r := r) (s := s) (i := i) (l := l) (d := d) (p := p) (t := t) (by omega)
  have HC := Lib.hid (fun W => fcheck_all W k r s i l d p a t)
  have hR : marR k r s i l d p a t = .tuple #[.string ⟨#[]⟩, .int .i64 (frE k r s i l d p t)] := by unfold marR; rw [if_pos (by simpa using h1)]
  rw [hR]
  have HB := Lib.hid ((Below.refl w.heap.size w).alloc (Nat.le_refl _) (.cells #[.int .i64 k, .int .i64 r, .int .i64 s, .int .i64 i, .int .i64 l, .int .i64 d, .int .i64 p, .int .u32 a, .string t] 34))
  have HZ := Lib.hid (Box9.blk (Blk.new w 34 [.int .i64 k, .int .i64 r, .int .i64 s, .int .i64 i, .int .i64 l, .int .i64 d, .int .i64 p, .int .u32 a, .string t]))
  change Hid (Box9 (w.alloc (.cells #[.int .i64 k, .int .i64 r, .int .i64 s, .int .i64 i, .int .i64 l, .int .i64 d, .int .i64 p, .int .u32 a, .string t] 34)) _ _ _ _ _ _ _ _ _ _) at HZ
  obtain ⟨E, hE⟩ : ∃ E, frE k r s i l d p t = E := ⟨_, rfl⟩
  rw [hE] at h1 HC ⊢
  clear hR hE hb ha
  unfold frV at HC ⊢
  go_enter Tryz.func149, Tryz.ntmps149
  go_upto_region 1 with fail
  generalize w.alloc (.cells #[.int .i64 k, .int .i64 r, .int .i64 s, .int .i64 i, .int .i64 l, .int .i64 d, .int .i64 p, .int .u32 a, .string t] 34) = wz at *
  obtain ⟨c0, c1, c2, c3, c4, c5, c6, c7, c8⟩ := HZ.out
  go_wp2_with (go_at_call 117; refine (HC.out _).mono ?_; rintro e w1 ⟨rfl, hb1⟩)
  exact bodyPost_ret (v := .tuple #[.string ⟨#[]⟩, .int .i64 E]) (by simp [results, Tryz.results149, go_sem]) rfl ⟨rfl, HB.out.trans (hb1.mono HB.out.size)⟩
set_option maxRecDepth 100000 in
set_option maxHeartbeats 8000000 in
theorem fenc_all (w : World) (k r s i l d p a : Int) (t : ByteArray) (ha : 0 ≤ a ∧ a < 4294967296) :
  Calls Tryz.prog 85 #[frV k r s i l d p a t] w fun e w' => e = .returned (fencR k r s i l d p a t) ∧ Below w.heap.size w w' := by
 by_cases hb : t.size ≤ 1000
 ·exact fenc_any w k r s i l d p a t hb ha
 ·have h1 := frE_big (k := k) (r := r) (s := s) (i := i) (l := l) (d := d) (p := p) (t := t) (by omega)
  have hM := fun W => fmar_all W k r s i l d p a t ha
  have hR : marR k r s i l d p a t = .tuple #[.string ⟨#[]⟩, .int .i64 (frE k r s i l d p t)] := by unfold marR; rw [if_pos (by simpa using h1)]
  rw [hR] at hM
  have HMr := Lib.hid hM
  have hR2 : fencR k r s i l d p a t = .tuple #[.string ⟨#[]⟩, .int .i64 (frE k r s i l d p t)] := by unfold fencR; rw [if_pos (by simpa using h1)]
  rw [hR2]
  have HB := Lib.hid ((Below.refl w.heap.size w).alloc (Nat.le_refl _) (.cells #[.int .i64 k, .int .i64 r, .int .i64 s, .int .i64 i, .int .i64 l, .int .i64 d, .int .i64 p, .int .u32 a, .string t] 34))
  have HZ := Lib.hid (Box9.blk (Blk.new w 34 [.int .i64 k, .int .i64 r, .int .i64 s, .int .i64 i, .int .i64 l, .int .i64 d, .int .i64 p, .int .u32 a, .string t]))
  change Hid (Box9 (w.alloc (.cells #[.int .i64 k, .int .i64 r, .int .i64 s, .int .i64 i, .int .i64 l, .int .i64 d, .int .i64 p, .int .u32 a, .string t] 34)) _ _ _ _ _ _ _ _ _ _) at HZ
  obtain ⟨E, hE⟩ : ∃ E, frE k r s i l d p t = E := ⟨_, rfl⟩
  rw [hE] at h1 HMr ⊢
  clear hR hR2 hM hE hb ha
  unfold frV at HMr ⊢
  go_enter Tryz.func85, Tryz.ntmps85
  go_upto_region 1 with fail
  generalize w.alloc (.cells #[.int .i64 k, .int .i64 r, .int .i64 s, .int .i64 i, .int .i64 l, .int .i64 d, .int .i64 p, .int .u32 a, .string t] 34) = wz at *
  obtain ⟨c0, c1, c2, c3, c4, c5, c6, c7, c8⟩ := HZ.out
  go_wp2_with (go_at_call 149; refine (HMr.out _).mono ?_; rintro e w1 ⟨rfl, hb1⟩)
  exact bodyPost_ret (v := .tuple #[.string ⟨#[]⟩, .int .i64 E]) (by simp [results, Tryz.results85, go_sem]) rfl ⟨rfl, HB.out.trans (hb1.mono HB.out.size)⟩

end Go.Proofs.YtnlnmfkmbpihhaaGreatDoor
