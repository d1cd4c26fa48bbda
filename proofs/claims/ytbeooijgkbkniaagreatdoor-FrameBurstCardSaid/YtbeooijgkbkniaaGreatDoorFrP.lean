/-
  WALK: stelelaw13.FrameErasures.
-/
import Derived.Test.YtbeooijgkbkniaaGreatDoorFrO
import Derived.Test.YtbeooijgkbkniaaGreatDoorApB
namespace Go.Proofs.YtbeooijgkbkniaaGreatDoor
open Go.RowKit

abbrev Box3 (W : World) (H : Nat) (c0 c1 c2 : Value) : Prop := W.cell? ⟨H, 0, none⟩ = some c0 ∧ W.cell? ⟨H, 1, none⟩ = some c1 ∧ W.cell? ⟨H, 2, none⟩ = some c2
theorem Box3.keep {A B : World} {H : Nat} {c0 c1 c2 : Value} (h : Box3 A H c0 c1 c2) (hb : Below A.heap.size A B) : Box3 B H c0 c1 c2 := by
  obtain ⟨h0, h1, h2⟩ := h
  exact ⟨cell_below hb h0, cell_below hb h1, cell_below hb h2⟩
/-- A decoded frame and its quality, laid. -/
def FQ (V : World) (g : Nat) (k r s i l d p a : Int) (t : ByteArray) (x y z : Int) : Prop :=
  Box9 V g (.int .i64 k) (.int .i64 r) (.int .i64 s) (.int .i64 i) (.int .i64 l) (.int .i64 d) (.int .i64 p) (.int .u32 a) (.string t) ∧ Box3 V (g + 1) (.int .i64 x) (.int .i64 y) (.int .i64 z)
theorem FQ.keep {A B : World} {g : Nat} {k r s i l d p a : Int} {t : ByteArray} {x y z : Int} (h : FQ A g k r s i l d p a t x y z) (hb : Below A.heap.size A B) : FQ B g k r s i l d p a t x y z :=
  ⟨h.1.keep hb, h.2.keep hb⟩
theorem decd_new (W : World) (k r s i l d p a : Int) (t : ByteArray) (x y z : Int) :
    Below W.heap.size W ((W.alloc (.cells #[.int .i64 k, .int .i64 r, .int .i64 s, .int .i64 i, .int .i64 l, .int .i64 d, .int .i64 p, .int .u32 a, .string t] 26)).alloc (.cells #[.int .i64 x, .int .i64 y, .int .i64 z] 42)) ∧
      FQ ((W.alloc (.cells #[.int .i64 k, .int .i64 r, .int .i64 s, .int .i64 i, .int .i64 l, .int .i64 d, .int .i64 p, .int .u32 a, .string t] 26)).alloc (.cells #[.int .i64 x, .int .i64 y, .int .i64 z] 42)) W.heap.size k r s i l d p a t x y z := by
  refine ⟨((Below.refl _ _).alloc (Nat.le_refl _) _).alloc (by simp) _, ?_, ?_⟩
  · exact (Box9.blk (Blk.new W 26 [.int .i64 k, .int .i64 r, .int .i64 s, .int .i64 i, .int .i64 l, .int .i64 d, .int .i64 p, .int .u32 a, .string t])).keep ((Below.refl _ _).alloc (Nat.le_refl _) _)
  · have hq := Blk.new (W.alloc (.cells #[.int .i64 k, .int .i64 r, .int .i64 s, .int .i64 i, .int .i64 l, .int .i64 d, .int .i64 p, .int .u32 a, .string t] 26)) 42 [.int .i64 x, .int .i64 y, .int .i64 z]
    rw [show (W.alloc (.cells #[.int .i64 k, .int .i64 r, .int .i64 s, .int .i64 i, .int .i64 l, .int .i64 d, .int .i64 p, .int .u32 a, .string t] 26)).heap.size = W.heap.size + 1 by simp] at hq
    exact ⟨hq.cell (i := 0) rfl, hq.cell (i := 1) rfl, hq.cell (i := 2) rfl⟩

theorem vintP {k : IntKind} {a b : Int} (h : a = b) : Value.int k a = Value.int k b := by rw [h]
namespace erasures
set_option maxRecDepth 100000 in
set_option maxHeartbeats 16000000 in
theorem walk (w : World) (k r s i l d p a : Int) (t : ByteArray) (q : Nat) (hq : q < 256) (ha : 0 ≤ a ∧ a < 4294967296) :
    Calls Tryz.prog 9 #[frV k r s i l d p a t, .int .u8 (q : Int)] w fun e w' => e = .returned (.bool true) ∧ Below w.heap.size w w' := by
  have HAl := Lib.hid alive_any
  have HTl := Lib.hid (fun W => tooLong_any W k r s i l d p a t)
  have HB := Lib.hid ((Below.refl w.heap.size w).alloc (Nat.le_refl _) (.cells #[.int .i64 k, .int .i64 r, .int .i64 s, .int .i64 i, .int .i64 l, .int .i64 d, .int .i64 p, .int .u32 a, .string t] 26))
  have HZ := Lib.hid (Box9.blk (Blk.new w 26 [.int .i64 k, .int .i64 r, .int .i64 s, .int .i64 i, .int .i64 l, .int .i64 d, .int .i64 p, .int .u32 a, .string t]))
  change Hid (Box9 (w.alloc (.cells #[.int .i64 k, .int .i64 r, .int .i64 s, .int .i64 i, .int .i64 l, .int .i64 d, .int .i64 p, .int .u32 a, .string t] 26)) _ _ _ _ _ _ _ _ _ _) at HZ
  have HE := Lib.hid (fun (h : t.size ≤ 1000) W => fenc_any W k r s i l d p a t h ha)
  have HC := Lib.hid (fun (h : t.size ≤ 1000) W => fcheck_any W k r s i l d p a t h)
  have HV := Lib.hid (fun (h : frE k r s i l d p t = 0) => valid_parts h ha)
  obtain ⟨F, hF⟩ : ∃ F, frE k r s i l d p t = F := ⟨_, rfl⟩
  rw [hF] at HC HV
  clear hF ha
  unfold frV at HTl HE HC ⊢
  obtain ⟨big, hbig⟩ : ∃ x, decide (200 < t.size) = x := ⟨_, rfl⟩
  rw [hbig] at HTl
  go_enter Tryz.func9, Tryz.ntmps9
  go_upto_region 1 with fail
  generalize w.alloc (.cells #[.int .i64 k, .int .i64 r, .int .i64 s, .int .i64 i, .int .i64 l, .int .i64 d, .int .i64 p, .int .u32 a, .string t] 26) = w0 at *
  go_upto_region 3 with (go_at_call 10; refine (HAl.out _).mono ?_; rintro e w1 ⟨rfl, hb1⟩)
  have HZ1 := Lib.hid (HZ.out.keep hb1)
  have HB1 := Lib.hid (HB.out.trans (hb1.mono HB.out.size))
  clear hb1 HZ HB HAl
  obtain ⟨c0, c1, c2, c3, c4, c5, c6, c7, c8⟩ := HZ1.out
  cases big with
  | true =>
    clear hbig
    go_wp2_with (go_at_call 11; refine (HTl.out _).mono ?_; rintro e w2 ⟨rfl, hb2⟩)
    go_ret
    exact ⟨rfl, HB1.out.trans (hb2.mono HB1.out.size)⟩
  | false =>
    have ht : t.size ≤ 200 := by have := of_decide_eq_false hbig; omega
    have HE := Lib.hid (HE.out (by omega))
    have HC := Lib.hid (HC.out (by omega))
    clear hbig ht
    by_cases h0 : F = 0
    · subst h0
      obtain ⟨m, hmb, hml, _, _, e3, _, e5, e6⟩ := HV.out rfl
      have H5 := Lib.hid e5
      have H6 := Lib.hid e6
      have Hmb := Lib.hid hmb
      have Hml := Lib.hid hml
      have zB : (strB (bodyL m)).size = 836 := by rw [strB_size, bodyL_len]
      have zL : (cellL m).length = 836 := cellL_len hmb hml
      have bL : B01 (cellL m) := cellL_01 m
      have yL : Bytes (cellL m) := cells_bytes (cells_01 bL)
      have HDe : Hid (∀ W, Calls Tryz.prog 23 #[.string (strB (bodyL m)), .int .i64 8] W fun e w' => e = .returned (.tuple #[.string (strB (cellL m)), .int .i64 0]) ∧ Below W.heap.size W w') := Lib.hid (fun W => by
        have h := dein_any W (strB (bodyL m)) zB
        rw [bs_strB (bodyL_bytes hmb hml), show deinL (bodyL m) = cellL m from dein_inter zL] at h
        exact h)
      have HRp : Hid (∀ W : World, Calls Tryz.prog 25 #[.string ⟨#[63]⟩, .int .i64 90] W fun e w' => e = .returned (.string (strB (List.replicate 90 63))) ∧ Below W.heap.size W w') := Lib.hid (fun W => repeat_any W 63 90 (by omega))
      have hf1 := dec_front hmb hml e5
      have hf2 := dec_back hmb hml e5
      have zF : (strB (List.replicate 90 63) ++ (strB (bodyL m)).extract 90 836).size ≤ 1000 := by
        rw [ByteArray.size_append, strB_size, List.length_replicate, ByteArray.size_extract, zB]
        decide
      have zG : ((strB (bodyL m)).extract 0 746).size ≤ 1000 := by
        rw [ByteArray.size_extract, zB]
        decide
      rw [e6] at hf1 hf2
      obtain ⟨y0, y1, hf1⟩ := hf1
      obtain ⟨z0, z1, hf2⟩ := hf2
      have HDy : Hid (∀ W, Calls Tryz.prog 18 #[.string (strB (List.replicate 90 63) ++ (strB (bodyL m)).extract 90 836)] W fun e w' => e = .returned (decR (strB (List.replicate 90 63) ++ (strB (bodyL m)).extract 90 836)) ∧ Below W.heap.size W w') := Lib.hid (fun W => fdec_any W _ zF)
      have HDz : Hid (∀ W, Calls Tryz.prog 18 #[.string ((strB (bodyL m)).extract 0 746)] W fun e w' => e = .returned (decR ((strB (bodyL m)).extract 0 746)) ∧ Below W.heap.size W w') := Lib.hid (fun W => fdec_any W _ zG)
      rw [hf1] at HDy
      rw [hf2] at HDz
      rw [e3] at HE
      have zC : (markS ++ strB (bodyL m)).size = 852 := by rw [ByteArray.size_append, mark_size, zB]
      have zX : (markS ++ strB (bodyL m)).extract 16 852 = strB (bodyL m) := mark_drop _ _ (by omega)
      unfold frV qualV at HDy HDz
      have zS : (strB (cellL m)).size = 836 := by rw [strB_size, zL]
      have hbs : bs (strB (cellL m)) = cellL m := bs_strB yL
      have zO : (strB (List.replicate 90 63)).size = 90 := by rw [strB_size, List.length_replicate]
      have ZL := Lib.hid zL
      have BL := Lib.hid bL
      have Hbs := Lib.hid hbs
      clear hf1 hf2 zF zG e3 e5 e6 hmb hml zL bL yL hbs
      generalize strB (bodyL m) = Bd at *
      generalize markS ++ Bd = C at *
      generalize strB (List.replicate 90 63) = Op at *
      generalize strB (cellL m) = S at *
      go_upto_region 5 with (first | (go_at_call 11; refine (HTl.out _).mono ?_; rintro e w2 ⟨rfl, hb2⟩; have hz2 := HZ1.out.keep hb2; obtain ⟨a0, a1, a2, a3, a4, a5, a6, a7, a8⟩ := hz2) | (go_at_call 16; refine (HC.out _).mono ?_; rintro e w3 ⟨rfl, hb3⟩))
      have hb23 := hb2.trans (hb3.mono hb2.size)
      have HZ3 := Lib.hid (HZ1.out.keep hb23)
      have HB3 := Lib.hid (HB1.out.trans (hb23.mono HB1.out.size))
      clear hb2 hb3 hb23 HZ1 HB1 HTl HC a0 a1 a2 a3 a4 a5 a6 a7 a8 c0 c1 c2 c3 c4 c5 c6 c7 c8
      obtain ⟨c0, c1, c2, c3, c4, c5, c6, c7, c8⟩ := HZ3.out
      go_upto_region 7 with (go_at_call 22; refine (HE.out _).mono ?_; rintro e w4 ⟨rfl, hb4⟩)
      have HZ4 := Lib.hid (HZ3.out.keep hb4)
      have HB4 := Lib.hid (HB3.out.trans (hb4.mono HB3.out.size))
      clear hb4 HZ3 HB3 HE c0 c1 c2 c3 c4 c5 c6 c7 c8
      go_upto_region 10 with (go_at_call 23; refine (HDe.out _).mono ?_; rintro e w5 ⟨rfl, hb5⟩)
      have HZ5 := Lib.hid (HZ4.out.keep hb5)
      have HB5 := Lib.hid (HB4.out.trans (hb5.mono HB4.out.size))
      clear hb5 HZ4 HB4 HDe
      obtain ⟨cc, w6, hcv, hc1, hc2, hrow, hbb, hsz6⟩ := run_toBytes w5 S (by rw [zS]; omega)
      rw [zS] at hcv hc1
      rw [Hbs.out] at hrow
      have Hrow := Lib.hid hrow
      have Hbb := Lib.hid hbb
      obtain ⟨j0, hj0⟩ : ∃ j0, q % 8 = j0 := ⟨_, rfl⟩
      have hj8 : j0 < 8 := by omega
      have hqm : (q : Int) % 8 = (j0 : Int) := by omega
      have HO0 := Lib.hid (open8_zero j0 ZL.out BL.out)
      have Hqm := Lib.hid hqm
      clear hrow hbb hsz6 hj0 hqm
      go_wp2
      clear hcv
      go_loopw [11, 12] (fun n x wr => ∃ (e j : Nat) (L : List Nat), e ≤ 105 ∧ j = j0 + 8 * e ∧ n = .int .i64 (e : Int) ∧ x = .int .i64 (j : Int) ∧ Open8 (cellL m) j0 e L ∧ RowB wr w5.heap.size L ∧ Below w5.heap.size w5 wr) (fun _ x _ => 836 - (intOf x).toNat)
      case atStart => exact ⟨0, j0, cellL m, by omega, by omega, rfl, vintP Hqm.out, HO0.out, Hrow.out, Hbb.out⟩
      case round =>
        obtain ⟨e, j, L, he, hje, rfl, rfl, ho, hr, hB⟩ := hrel
        clear HO0 Hrow Hbb
        have Ho := Lib.hid ho
        have Hr := Lib.hid hr
        have HBr := Lib.hid hB
        have Hje := Lib.hid hje
        clear ho hr hB hje
        by_cases h : j < 836
        · have hjI : (j : Int) < 836 := by omega
          have hst := open8_step hj8 ZL.out BL.out Ho.out (by have := Hje.out; omega)
          rw [← Hje.out] at hst
          have Hst := Lib.hid hst
          have hLj : L[j]? = some (cf L j) := by unfold cf; rw [List.getElem?_eq_getElem (by rw [Ho.out.len]; exact h)]; rfl
          have hc := Hr.out.cell j _ hLj
          have hf := Hr.out.free j (by rw [Ho.out.len]; exact h)
          have Hset := Lib.hid (Hr.out.set j 63)
          clear hst hLj
          generalize cf L j = xj at *
          go_wp2
          go_roundw
          case rel => exact ⟨e + 1, j + 8, _, by have := Hje.out; omega, by have := Hje.out; omega, by go_num, by go_num, Hst.out, Hset.out, HBr.out.setCell (p := ⟨w5.heap.size, j, none⟩) (Nat.le_refl _) _⟩
          case measure => simp [intOf]; omega
        · have hjI : ¬ (j : Int) < 836 := by omega
          have hlen := Ho.out.len
          obtain ⟨o1, o2, o3⟩ := open8_ok ZL.out BL.out Ho.out
          have hbL := cells_bytes o1
          have hcs := run_toStr (Hr.out.bytes (n := 836) (c := cc) hlen.symm hc1 hc2) hlen.symm
          have hdx := dec_inter Hmb.out Hml.out H5.out hlen o1 o2
          rw [o3, Ho.out.cnt, H6.out] at hdx
          have HI : Hid (∀ W, Calls Tryz.prog 24 #[.string (strB L), .int .i64 8] W fun e w' => e = .returned (.tuple #[.string (strB (interL L)), .int .i64 0]) ∧ Below W.heap.size W w') := Lib.hid (fun W => by
            have h := inter_any W (strB L) (by rw [strB_size, hlen])
            rw [bs_strB hbL] at h
            exact h)
          have HDx : Hid (∀ W, Calls Tryz.prog 18 #[.string (strB (interL L))] W fun e w' => e = .returned (decR (strB (interL L))) ∧ Below W.heap.size W w') := Lib.hid (fun W => fdec_any W _ (by rw [strB_size, interL_len]; omega))
          rw [hdx] at HDx
          unfold frV qualV at HDx
          have HZr := Lib.hid (HZ5.out.keep HBr.out)
          have HBw := Lib.hid (HB5.out.trans (HBr.out.mono HB5.out.size))
          clear hlen o1 o2 o3 hbL hdx Hr HBr Ho Hje HZ5 HB5 h he
          generalize strB (interL L) = SI at *
          generalize strB L = SL at *
          generalize w5.heap.size = g5 at *
          go_upto_region 20 with (go_at_call 24; refine (HI.out _).mono ?_; rintro e w7 ⟨rfl, hb7⟩)
          have HZ7 := Lib.hid (HZr.out.keep hb7)
          have HB7 := Lib.hid (HBw.out.trans (hb7.mono HBw.out.size))
          clear hb7 HZr HBw HI hcs
          go_upto_region 21 with (go_at_call 25; refine (HRp.out _).mono ?_; rintro e w8 ⟨rfl, hb8⟩)
          have HZ8 := Lib.hid (HZ7.out.keep hb8)
          have HB8 := Lib.hid (HB7.out.trans (hb8.mono HB7.out.size))
          clear hb8 HZ7 HB7 HRp
          go_upto_region 22 with (go_at_call 18; refine (HDx.out _).mono ?_; rintro e w9 ⟨rfl, hb9⟩)
          obtain ⟨hA, hX⟩ := decd_new w9 k r s i l d p a t 0 e 0
          have HX9 := Lib.hid hX
          have HZ9 := Lib.hid (HZ8.out.keep (hb9.trans (hA.mono hb9.size)))
          have HB9 := Lib.hid (HB8.out.trans ((hb9.trans (hA.mono hb9.size)).mono HB8.out.size))
          clear hb9 hA hX HZ8 HB8 HDx
          generalize (w9.alloc (.cells #[.int .i64 k, .int .i64 r, .int .i64 s, .int .i64 i, .int .i64 l, .int .i64 d, .int .i64 p, .int .u32 a, .string t] 26)).alloc (.cells #[.int .i64 0, .int .i64 (e : Int), .int .i64 0] 42) = v9 at *
          generalize w9.heap.size = g9 at *
          go_upto_region 23 with (go_at_call 18; refine (HDy.out _).mono ?_; rintro e w10 ⟨rfl, hb9⟩)
          obtain ⟨hA, hX⟩ := decd_new w10 k r s i l d p a t y0 y1 0
          have HY9 := Lib.hid hX
          have hbb := hb9.trans (hA.mono hb9.size)
          have HX10 := Lib.hid (HX9.out.keep hbb)
          have HZ10 := Lib.hid (HZ9.out.keep hbb)
          have HB10 := Lib.hid (HB9.out.trans (hbb.mono HB9.out.size))
          clear hb9 hA hX hbb HZ9 HB9 HX9 HDy
          generalize (w10.alloc (.cells #[.int .i64 k, .int .i64 r, .int .i64 s, .int .i64 i, .int .i64 l, .int .i64 d, .int .i64 p, .int .u32 a, .string t] 26)).alloc (.cells #[.int .i64 y0, .int .i64 y1, .int .i64 0] 42) = v10 at *
          generalize w10.heap.size = g10 at *
          go_upto_region 24 with (go_at_call 18; refine (HDz.out _).mono ?_; rintro e w11 ⟨rfl, hb9⟩)
          obtain ⟨hA, hX⟩ := decd_new w11 k r s i l d p a t z0 z1 0
          have HV9 := Lib.hid hX
          have hbb := hb9.trans (hA.mono hb9.size)
          have HX11 := Lib.hid (HX10.out.keep hbb)
          have HY11 := Lib.hid (HY9.out.keep hbb)
          have HZ11 := Lib.hid (HZ10.out.keep hbb)
          have HB11 := Lib.hid (HB10.out.trans (hbb.mono HB10.out.size))
          clear hb9 hA hX hbb HZ10 HB10 HX10 HY9 HDz
          generalize (w11.alloc (.cells #[.int .i64 k, .int .i64 r, .int .i64 s, .int .i64 i, .int .i64 l, .int .i64 d, .int .i64 p, .int .u32 a, .string t] 26)).alloc (.cells #[.int .i64 z0, .int .i64 z1, .int .i64 0] 42) = v11 at *
          generalize w11.heap.size = g11 at *
          obtain ⟨⟨c0, c1, c2, c3, c4, c5, c6, c7, c8⟩, d0, d1, d2⟩ := HX11.out
          obtain ⟨⟨b0, b1, b2, b3, b4, b5, b6, b7, b8⟩, _, _, _⟩ := HY11.out
          obtain ⟨⟨a0, a1, a2, a3, a4, a5, a6, a7, a8⟩, _, _, _⟩ := HV9.out
          obtain ⟨f0, f1, f2, f3, f4, f5, f6, f7, f8⟩ := HZ11.out
          go_wp2_with fail
          go_ret
          exact ⟨rfl, HB11.out⟩
    · have h1 : (F != 0) = true := by simpa using h0
      clear h0 HV
      go_wp2_with (first | (go_at_call 11; refine (HTl.out _).mono ?_; rintro e w2 ⟨rfl, hb2⟩; have hz2 := HZ1.out.keep hb2; obtain ⟨a0, a1, a2, a3, a4, a5, a6, a7, a8⟩ := hz2) | (go_at_call 16; refine (HC.out _).mono ?_; rintro e w3 ⟨rfl, hb3⟩))
      go_ret
      exact ⟨rfl, HB1.out.trans ((hb2.trans (hb3.mono hb2.size)).mono HB1.out.size)⟩
end erasures

end Go.Proofs.YtbeooijgkbkniaaGreatDoor
