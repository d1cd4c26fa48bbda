/-
  WALK: stelelaw13.FrameRoundTrip.
-/
import Derived.Test.YtbeooijgkbkniaaGreatDoorFrN
import Derived.Test.YtbeooijgkbkniaaGreatDoorFrL
namespace Go.Proofs.YtbeooijgkbkniaaGreatDoor
open Go.RowKit

/-- What a valid frame is encoded as. -/
theorem valid_parts {k r s i l d p a : Int} {t : ByteArray} (h : frE k r s i l d p t = 0) (ha : 0 ≤ a ∧ a < 4294967296) :
    ∃ (m : List Nat), Bytes m ∧ m.length = 44 ∧ marR k r s i l d p a t = .tuple #[.string (strB m), .int .i64 0] ∧ unmR (strB m) = .tuple #[frV k r s i l d p a t, .int .i64 0] ∧
      fencR k r s i l d p a t = .tuple #[.string (markS ++ strB (bodyL m)), .int .i64 0] ∧ decR (strB (bodyL m)) = .tuple #[frV k r s i l d p a t, zeroQ, .int .i64 0] ∧ unmC (strB m) = 0 ∧ unmF (strB m) = frV k r s i l d p a t := by
  obtain ⟨h1, h2, h3, h4, h5, h6, h7, h8⟩ := frE_ok h
  obtain ⟨k, rfl⟩ : ∃ n : Nat, k = n := ⟨k.toNat, by omega⟩
  obtain ⟨r, rfl⟩ : ∃ n : Nat, r = n := ⟨r.toNat, by omega⟩
  obtain ⟨s, rfl⟩ : ∃ n : Nat, s = n := ⟨s.toNat, by omega⟩
  obtain ⟨i, rfl⟩ : ∃ n : Nat, i = n := ⟨i.toNat, by omega⟩
  obtain ⟨l, rfl⟩ : ∃ n : Nat, l = n := ⟨l.toNat, by omega⟩
  obtain ⟨d, rfl⟩ : ∃ n : Nat, d = n := ⟨d.toNat, by omega⟩
  obtain ⟨p, rfl⟩ : ∃ n : Nat, p = n := ⟨p.toNat, by omega⟩
  obtain ⟨a, rfl⟩ : ∃ n : Nat, a = n := ⟨a.toNat, by omega⟩
  obtain ⟨_, _, _, hb, hl, _, _⟩ := mar_ok h (a := a) (by omega)
  obtain ⟨hc, hf⟩ := unm_mar h (a := a) (by omega)
  refine ⟨marL k r s i l d p a t, hb, hl, ?_, ?_, ?_, ?_, hc, hf⟩
  · unfold marR; rw [h, if_neg (by simp)]; simp
  · rw [unmR_eq, hc, if_pos rfl, hf]
  · unfold fencR; rw [h, if_neg (by simp)]; simp
  · rw [dec_body hb hl hc, hf]
theorem mark_size : markS.size = 16 := by decide
theorem mark_drop (b : ByteArray) (n : Nat) (h : n = 16 + b.size) : (markS ++ b).extract 16 n = b := by
  refine bs_inj ?_
  have e : bs (markS ++ b) = bs markS ++ bs b := by
    rw [← strB_bs markS, ← strB_bs b, strB_cat, bs_strB, bs_strB (fun x hx => bs_lt _ x hx), bs_strB (fun x hx => bs_lt _ x hx)]
    intro x hx
    rcases List.mem_append.1 hx with hx | hx
    · exact bs_lt _ x hx
    · exact bs_lt _ x hx
  rw [bs_extract, e, List.take_of_length_le (by rw [List.length_append, bs_len, bs_len, mark_size, h]; exact Nat.le_refl _), show (16 : Nat) = (bs markS).length by rw [bs_len, mark_size], List.drop_left]

namespace roundTrip
set_option maxRecDepth 100000 in
set_option maxHeartbeats 16000000 in
theorem walk (w : World) (k r s i l d p a : Int) (t : ByteArray) (ha : 0 ≤ a ∧ a < 4294967296) :
    Calls Tryz.prog 6 #[frV k r s i l d p a t] w fun e w' => e = .returned (.bool true) ∧ Below w.heap.size w w' := by
  have HAl := Lib.hid alive_any
  have HTl := Lib.hid (fun W => tooLong_any W k r s i l d p a t)
  have HB := Lib.hid ((Below.refl w.heap.size w).alloc (Nat.le_refl _) (.cells #[.int .i64 k, .int .i64 r, .int .i64 s, .int .i64 i, .int .i64 l, .int .i64 d, .int .i64 p, .int .u32 a, .string t] 26))
  have HZ := Lib.hid (Box9.blk (Blk.new w 26 [.int .i64 k, .int .i64 r, .int .i64 s, .int .i64 i, .int .i64 l, .int .i64 d, .int .i64 p, .int .u32 a, .string t]))
  change Hid (Box9 (w.alloc (.cells #[.int .i64 k, .int .i64 r, .int .i64 s, .int .i64 i, .int .i64 l, .int .i64 d, .int .i64 p, .int .u32 a, .string t] 26)) _ _ _ _ _ _ _ _ _ _) at HZ
  have HM := Lib.hid (fun (h : t.size ≤ 1000) W => fmar_any W k r s i l d p a t h ha)
  have HE := Lib.hid (fun (h : t.size ≤ 1000) W => fenc_any W k r s i l d p a t h ha)
  have HC := Lib.hid (fun (h : t.size ≤ 1000) W => fcheck_any W k r s i l d p a t h)
  have HV := Lib.hid (fun (h : frE k r s i l d p t = 0) => valid_parts h ha)
  obtain ⟨F, hF⟩ : ∃ F, frE k r s i l d p t = F := ⟨_, rfl⟩
  rw [hF] at HC HV
  clear hF ha
  unfold frV at HTl HM HE HC ⊢
  obtain ⟨big, hbig⟩ : ∃ x, decide (200 < t.size) = x := ⟨_, rfl⟩
  rw [hbig] at HTl
  go_enter Tryz.func6, Tryz.ntmps6
  go_upto_region 1 with fail
  generalize w.alloc (.cells #[.int .i64 k, .int .i64 r, .int .i64 s, .int .i64 i, .int .i64 l, .int .i64 d, .int .i64 p, .int .u32 a, .string t] 26) = w0 at *
  go_upto_region 3 with (go_at_call 10; refine (HAl.out _).mono ?_; rintro e w1 ⟨rfl, hb1⟩)
  have HZ1 := Lib.hid (HZ.out.keep hb1)
  have HB1 := Lib.hid (HB.out.trans (hb1.mono HB.out.size))
  clear hb1 HZ HB HAl
  obtain ⟨c0, c1, c2, c3, c4, c5, c6, c7, c8⟩ := HZ1.out
  cases big with
  | true =>
    clear hbig
    go_wp2_with (go_at_call 11; refine (HTl.out _).mono ?_; rintro e w2 ⟨rfl, hb2⟩)
    go_ret
    exact ⟨rfl, HB1.out.trans (hb2.mono HB1.out.size)⟩
  | false =>
    have ht : t.size ≤ 200 := by have := of_decide_eq_false hbig; omega
    have HM := Lib.hid (HM.out (by omega))
    have HE := Lib.hid (HE.out (by omega))
    have HC := Lib.hid (HC.out (by omega))
    clear hbig ht
    by_cases h0 : F = 0
    · subst h0
      obtain ⟨m, hmb, hml, e1, e2, e3, e4, _, _⟩ := HV.out rfl
      have zB : (strB (bodyL m)).size = 836 := by rw [strB_size, bodyL_len]
      have HU : Hid (∀ W, Calls Tryz.prog 14 #[.string (strB m)] W fun e w' => e = .returned (unmR (strB m)) ∧ Below W.heap.size W w') := Lib.hid (fun W => funm_any W (strB m) (by rw [strB_size, hml]; omega))
      have HD : Hid (∀ W, Calls Tryz.prog 18 #[.string (strB (bodyL m))] W fun e w' => e = .returned (decR (strB (bodyL m))) ∧ Below W.heap.size W w') := Lib.hid (fun W => fdec_any W (strB (bodyL m)) (by omega))
      rw [e1] at HM
      rw [e2] at HU
      rw [e3] at HE
      rw [e4] at HD
      have zC : (markS ++ strB (bodyL m)).size = 852 := by rw [ByteArray.size_append, mark_size, zB]
      have zX : (markS ++ strB (bodyL m)).extract 16 852 = strB (bodyL m) := mark_drop _ _ (by omega)
      unfold frV at HU HD
      unfold zeroQ qualV at HD
      clear e1 e2 e3 e4 hmb hml zB
      generalize strB (bodyL m) = Bd at *
      generalize markS ++ Bd = C at *
      generalize strB m = M at *
      go_upto_region 5 with (first | (go_at_call 11; refine (HTl.out _).mono ?_; rintro e w2 ⟨rfl, hb2⟩; have hz2 := HZ1.out.keep hb2; obtain ⟨a0, a1, a2, a3, a4, a5, a6, a7, a8⟩ := hz2) | (go_at_call 16; refine (HC.out _).mono ?_; rintro e w3 ⟨rfl, hb3⟩))
      have hb23 := hb2.trans (hb3.mono hb2.size)
      have HZ3 := Lib.hid (HZ1.out.keep hb23)
      have HB3 := Lib.hid (HB1.out.trans (hb23.mono HB1.out.size))
      clear hb2 hb3 hb23 HZ1 HB1 HTl HC a0 a1 a2 a3 a4 a5 a6 a7 a8 c0 c1 c2 c3 c4 c5 c6 c7 c8
      obtain ⟨c0, c1, c2, c3, c4, c5, c6, c7, c8⟩ := HZ3.out
      go_upto_region 6 with (go_at_call 12; refine (HM.out _).mono ?_; rintro e w4 ⟨rfl, hb4⟩)
      have HZ4 := Lib.hid (HZ3.out.keep hb4)
      have HB4 := Lib.hid (HB3.out.trans (hb4.mono HB3.out.size))
      clear hb4 HZ3 HB3 HM c0 c1 c2 c3 c4 c5 c6 c7 c8
      go_upto_region 7 with (go_at_call 14; refine (HU.out _).mono ?_; rintro e w5 ⟨rfl, hb5⟩)
      have hA : Below w5.heap.size w5 (w5.alloc (.cells #[.int .i64 k, .int .i64 r, .int .i64 s, .int .i64 i, .int .i64 l, .int .i64 d, .int .i64 p, .int .u32 a, .string t] 26)) := (Below.refl _ _).alloc (Nat.le_refl _) _
      have HU5 := Lib.hid (Box9.blk (Blk.new w5 26 [.int .i64 k, .int .i64 r, .int .i64 s, .int .i64 i, .int .i64 l, .int .i64 d, .int .i64 p, .int .u32 a, .string t]))
      change Hid (Box9 (w5.alloc (.cells #[.int .i64 k, .int .i64 r, .int .i64 s, .int .i64 i, .int .i64 l, .int .i64 d, .int .i64 p, .int .u32 a, .string t] 26)) _ _ _ _ _ _ _ _ _ _) at HU5
      have HZ5 := Lib.hid (HZ4.out.keep (hb5.trans (hA.mono hb5.size)))
      have HB5 := Lib.hid (HB4.out.trans ((hb5.trans (hA.mono hb5.size)).mono HB4.out.size))
      clear hb5 hA HZ4 HB4 HU
      generalize w5.alloc (.cells #[.int .i64 k, .int .i64 r, .int .i64 s, .int .i64 i, .int .i64 l, .int .i64 d, .int .i64 p, .int .u32 a, .string t] 26) = v5 at *
      generalize w5.heap.size = g5 at *
      obtain ⟨c0, c1, c2, c3, c4, c5, c6, c7, c8⟩ := HZ5.out
      go_upto_region 8 with (go_at_call 22; refine (HE.out _).mono ?_; rintro e w6 ⟨rfl, hb6⟩)
      have HZ6 := Lib.hid (HZ5.out.keep hb6)
      have HU6 := Lib.hid (HU5.out.keep hb6)
      have HB6 := Lib.hid (HB5.out.trans (hb6.mono HB5.out.size))
      clear hb6 HZ5 HU5 HB5 HE c0 c1 c2 c3 c4 c5 c6 c7 c8
      obtain ⟨c0, c1, c2, c3, c4, c5, c6, c7, c8⟩ := HZ6.out
      obtain ⟨b0, b1, b2, b3, b4, b5, b6, b7, b8⟩ := HU6.out
      go_upto_region 11 with (go_at_call 18; refine (HD.out _).mono ?_; rintro e w7 ⟨rfl, hb7⟩)
      have hA : Below w7.heap.size w7 ((w7.alloc (.cells #[.int .i64 k, .int .i64 r, .int .i64 s, .int .i64 i, .int .i64 l, .int .i64 d, .int .i64 p, .int .u32 a, .string t] 26)).alloc (.cells #[.int .i64 0, .int .i64 0, .int .i64 0] 42)) := ((Below.refl _ _).alloc (Nat.le_refl _) _).alloc (by simp) _
      have HY7 := Lib.hid ((Box9.blk (Blk.new w7 26 [.int .i64 k, .int .i64 r, .int .i64 s, .int .i64 i, .int .i64 l, .int .i64 d, .int .i64 p, .int .u32 a, .string t])).keep ((Below.refl _ _).alloc (Nat.le_refl _) (.cells #[.int .i64 0, .int .i64 0, .int .i64 0] 42)))
      change Hid (Box9 ((w7.alloc (.cells #[.int .i64 k, .int .i64 r, .int .i64 s, .int .i64 i, .int .i64 l, .int .i64 d, .int .i64 p, .int .u32 a, .string t] 26)).alloc (.cells #[.int .i64 0, .int .i64 0, .int .i64 0] 42)) _ _ _ _ _ _ _ _ _ _) at HY7
      have hq := Blk.new (w7.alloc (.cells #[.int .i64 k, .int .i64 r, .int .i64 s, .int .i64 i, .int .i64 l, .int .i64 d, .int .i64 p, .int .u32 a, .string t] 26)) 42 [.int .i64 0, .int .i64 0, .int .i64 0]
      rw [show (w7.alloc (.cells #[.int .i64 k, .int .i64 r, .int .i64 s, .int .i64 i, .int .i64 l, .int .i64 d, .int .i64 p, .int .u32 a, .string t] 26)).heap.size = w7.heap.size + 1 by simp] at hq
      have d0 := hq.cell (i := 0) rfl
      have d1 := hq.cell (i := 1) rfl
      have d2 := hq.cell (i := 2) rfl
      dsimp only [List.toArray] at d0 d1 d2
      have HZ7 := Lib.hid (HZ6.out.keep (hb7.trans (hA.mono hb7.size)))
      have HB7 := Lib.hid (HB6.out.trans ((hb7.trans (hA.mono hb7.size)).mono HB6.out.size))
      clear hb7 hA hq HZ6 HB6 HU6 HD c0 c1 c2 c3 c4 c5 c6 c7 c8 b0 b1 b2 b3 b4 b5 b6 b7 b8
      generalize (w7.alloc (.cells #[.int .i64 k, .int .i64 r, .int .i64 s, .int .i64 i, .int .i64 l, .int .i64 d, .int .i64 p, .int .u32 a, .string t] 26)).alloc (.cells #[.int .i64 0, .int .i64 0, .int .i64 0] 42) = v7 at *
      obtain ⟨c0, c1, c2, c3, c4, c5, c6, c7, c8⟩ := HZ7.out
      obtain ⟨b0, b1, b2, b3, b4, b5, b6, b7, b8⟩ := HY7.out
      go_wp2_with fail
      go_ret
      exact ⟨rfl, HB7.out⟩
    · have h1 : (F != 0) = true := by simpa using h0
      clear h0 HV
      go_wp2_with (first | (go_at_call 11; refine (HTl.out _).mono ?_; rintro e w2 ⟨rfl, hb2⟩; have hz2 := HZ1.out.keep hb2; obtain ⟨a0, a1, a2, a3, a4, a5, a6, a7, a8⟩ := hz2) | (go_at_call 16; refine (HC.out _).mono ?_; rintro e w3 ⟨rfl, hb3⟩))
      go_ret
      exact ⟨rfl, HB1.out.trans ((hb2.trans (hb3.mono hb2.size)).mono HB1.out.size)⟩
end roundTrip

end Go.Proofs.YtbeooijgkbkniaaGreatDoor
