/-
  WALK: stelelaw13.FrameScattered.
-/
import Derived.Test.YtbeooijgkbkniaaGreatDoorFrP
namespace Go.Proofs.YtbeooijgkbkniaaGreatDoor
open Go.RowKit

theorem u8_xor1 {x : Nat} (h : x = 48 ∨ x = 49) : bits .xor .u8 (x : Int) 1 = ((x ^^^ 1 : Nat) : Int) := by
  rcases h with rfl | rfl <;> decide
namespace scattered
set_option maxRecDepth 100000 in
set_option maxHeartbeats 16000000 in
theorem walk (w : World) (k r s i l d p a : Int) (t : ByteArray) (v : Value) (gl : List Nat) (hv : BytesAt w v gl) (hgb : Bytes gl) (ha : 0 ≤ a ∧ a < 4294967296) :
    Calls Tryz.prog 7 #[frV k r s i l d p a t, v] w fun e w' => e = .returned (.bool true) ∧ Below w.heap.size w w' := by
  have Hv := Lib.hid hv
  have Hgb := Lib.hid hgb
  obtain ⟨Ag, cg, rfl, hg1, hg2, hg3⟩ := hv
  clear hg3 hgb
  have HAl := Lib.hid alive_any
  have HTl := Lib.hid (fun W => tooLong_any W k r s i l d p a t)
  have HB := Lib.hid ((Below.refl w.heap.size w).alloc (Nat.le_refl _) (.cells #[.int .i64 k, .int .i64 r, .int .i64 s, .int .i64 i, .int .i64 l, .int .i64 d, .int .i64 p, .int .u32 a, .string t] 26))
  have HZ := Lib.hid (Box9.blk (Blk.new w 26 [.int .i64 k, .int .i64 r, .int .i64 s, .int .i64 i, .int .i64 l, .int .i64 d, .int .i64 p, .int .u32 a, .string t]))
  change Hid (Box9 (w.alloc (.cells #[.int .i64 k, .int .i64 r, .int .i64 s, .int .i64 i, .int .i64 l, .int .i64 d, .int .i64 p, .int .u32 a, .string t] 26)) _ _ _ _ _ _ _ _ _ _) at HZ
  have HE := Lib.hid (fun (h : t.size ≤ 1000) W => fenc_any W k r s i l d p a t h ha)
  have HC := Lib.hid (fun (h : t.size ≤ 1000) W => fcheck_any W k r s i l d p a t h)
  have HV := Lib.hid (fun (h : frE k r s i l d p t = 0) => valid_parts h ha)
  obtain ⟨F, hF⟩ : ∃ F, frE k r s i l d p t = F := ⟨_, rfl⟩
  rw [hF] at HC HV
  clear hF ha
  unfold frV at HTl HE HC ⊢
  obtain ⟨big, hbig⟩ : ∃ x, decide (200 < t.size) = x := ⟨_, rfl⟩
  rw [hbig] at HTl
  go_enter Tryz.func7, Tryz.ntmps7
  go_upto_region 1 with fail
  generalize w.alloc (.cells #[.int .i64 k, .int .i64 r, .int .i64 s, .int .i64 i, .int .i64 l, .int .i64 d, .int .i64 p, .int .u32 a, .string t] 26) = w0 at *
  go_upto_region 3 with (go_at_call 10; refine (HAl.out _).mono ?_; rintro e w1 ⟨rfl, hb1⟩)
  have HZ1 := Lib.hid (HZ.out.keep hb1)
  have HB1 := Lib.hid (HB.out.trans (hb1.mono HB.out.size))
  clear hb1 HZ HB HAl
  obtain ⟨c0, c1, c2, c3, c4, c5, c6, c7, c8⟩ := HZ1.out
  cases big with
  | true =>
    clear hbig
    go_wp2_with (go_at_call 11; refine (HTl.out _).mono ?_; rintro e w2 ⟨rfl, hb2⟩)
    go_ret
    exact ⟨rfl, HB1.out.trans (hb2.mono HB1.out.size)⟩
  | false =>
    have ht : t.size ≤ 200 := by have := of_decide_eq_false hbig; omega
    have HE := Lib.hid (HE.out (by omega))
    have HC := Lib.hid (HC.out (by omega))
    clear hbig ht
    by_cases h0 : F = 0
    · subst h0
      by_cases hgl : 120 < gl.length
      · have hglI : (120 : Int) < gl.length := by omega
        clear hgl HV HE
        go_wp2_with (first | (go_at_call 11; refine (HTl.out _).mono ?_; rintro e w2 ⟨rfl, hb2⟩; have hz2 := HZ1.out.keep hb2; obtain ⟨a0, a1, a2, a3, a4, a5, a6, a7, a8⟩ := hz2) | (go_at_call 16; refine (HC.out _).mono ?_; rintro e w3 ⟨rfl, hb3⟩))
        go_ret
        exact ⟨rfl, HB1.out.trans ((hb2.trans (hb3.mono hb2.size)).mono HB1.out.size)⟩
      have hglI : ¬ (120 : Int) < gl.length := by omega
      obtain ⟨m, hmb, hml, _, _, e3, _, e5, e6⟩ := HV.out rfl
      have H5 := Lib.hid e5
      have H6 := Lib.hid e6
      have Hmb := Lib.hid hmb
      have Hml := Lib.hid hml
      have zB : (strB (bodyL m)).size = 836 := by rw [strB_size, bodyL_len]
      have zL : (cellL m).length = 836 := cellL_len hmb hml
      have bL : B01 (cellL m) := cellL_01 m
      have yL : Bytes (cellL m) := cells_bytes (cells_01 bL)
      have HDe : Hid (∀ W, Calls Tryz.prog 23 #[.string (strB (bodyL m)), .int .i64 8] W fun e w' => e = .returned (.tuple #[.string (strB (cellL m)), .int .i64 0]) ∧ Below W.heap.size W w') := Lib.hid (fun W => by
        have h := dein_any W (strB (bodyL m)) zB
        rw [bs_strB (bodyL_bytes hmb hml), show deinL (bodyL m) = cellL m from dein_inter zL] at h
        exact h)
      rw [e3] at HE
      have zC : (markS ++ strB (bodyL m)).size = 852 := by rw [ByteArray.size_append, mark_size, zB]
      have zX : (markS ++ strB (bodyL m)).extract 16 852 = strB (bodyL m) := mark_drop _ _ (by omega)
      have zS : (strB (cellL m)).size = 836 := by rw [strB_size, zL]
      have hbs : bs (strB (cellL m)) = cellL m := bs_strB yL
      have ZL := Lib.hid zL
      have BL := Lib.hid bL
      have Hbs := Lib.hid hbs
      clear e3 e5 e6 hmb hml zL bL yL hbs
      generalize strB (bodyL m) = Bd at *
      generalize markS ++ Bd = C at *
      generalize strB (cellL m) = S at *
      go_upto_region 5 with (first | (go_at_call 11; refine (HTl.out _).mono ?_; rintro e w2 ⟨rfl, hb2⟩; have hz2 := HZ1.out.keep hb2; obtain ⟨a0, a1, a2, a3, a4, a5, a6, a7, a8⟩ := hz2) | (go_at_call 16; refine (HC.out _).mono ?_; rintro e w3 ⟨rfl, hb3⟩))
      have hb23 := hb2.trans (hb3.mono hb2.size)
      have HZ3 := Lib.hid (HZ1.out.keep hb23)
      have HB3 := Lib.hid (HB1.out.trans (hb23.mono HB1.out.size))
      clear hb2 hb3 hb23 HZ1 HB1 HTl HC a0 a1 a2 a3 a4 a5 a6 a7 a8 c0 c1 c2 c3 c4 c5 c6 c7 c8
      obtain ⟨c0, c1, c2, c3, c4, c5, c6, c7, c8⟩ := HZ3.out
      go_upto_region 6 with (go_at_call 22; refine (HE.out _).mono ?_; rintro e w4 ⟨rfl, hb4⟩)
      have HZ4 := Lib.hid (HZ3.out.keep hb4)
      have HB4 := Lib.hid (HB3.out.trans (hb4.mono HB3.out.size))
      clear hb4 HZ3 HB3 HE c0 c1 c2 c3 c4 c5 c6 c7 c8
      go_upto_region 9 with (go_at_call 23; refine (HDe.out _).mono ?_; rintro e w5 ⟨rfl, hb5⟩)
      have HZ5 := Lib.hid (HZ4.out.keep hb5)
      have HB5 := Lib.hid (HB4.out.trans (hb5.mono HB4.out.size))
      clear hb5 HZ4 HB4 HDe
      obtain ⟨cc, w6, hcv, hc1, hc2, hrow, hbb, hsz6⟩ := run_toBytes w5 S (by rw [zS]; omega)
      rw [zS] at hcv hc1
      rw [Hbs.out] at hrow
      have Hrow := Lib.hid hrow
      have Hbb := Lib.hid hbb
      have HF0 := Lib.hid (flip8_zero ZL.out BL.out)
      have hgl2 : gl.length ≤ 120 := by omega
      clear hrow hbb hsz6 hgl hglI
      go_wp2
      clear hcv
      go_loopw [10, 11, 49] (fun x n y wr => ∃ (i nx q : Nat) (X : Int) (L : List Nat), i ≤ gl.length ∧ X = (nx : Int) - 8 ∧ x = .int .i64 X ∧ n = .int .i64 (q : Int) ∧ y = .int .i64 (i : Int) ∧ q ≤ i ∧ nx ≤ 263 * i ∧ Flip8 (cellL m) nx q L ∧ RowB wr w5.heap.size L ∧ Below w5.heap.size w5 wr) (fun _ _ y _ => gl.length - (intOf y).toNat)
      case atStart => exact ⟨0, 0, 0, -8, cellL m, by omega, rfl, rfl, rfl, rfl, by omega, by omega, HF0.out, Hrow.out, Hbb.out⟩
      case round =>
        obtain ⟨i', nx, q, X, L, hi, hX, rfl, rfl, rfl, hq, hnx, hfl, hr, hB⟩ := hrel
        clear HF0 Hrow Hbb
        have Hfl := Lib.hid hfl
        have Hr := Lib.hid hr
        have HBr := Lib.hid hB
        have HX := Lib.hid hX
        have hX1 : -8 ≤ X := by omega
        have hX2 : X ≤ 40000 := by omega
        have hnx2 : nx ≤ 40000 := by omega
        clear hfl hr hB hX
        by_cases h : i' < gl.length
        · have hiI : (i' : Int) < gl.length := by omega
          have hgi : gl[i']? = some (cf gl i') := by unfold cf; rw [List.getElem?_eq_getElem h]; rfl
          have hg8 : cf gl i' < 256 := cf_lt Hgb.out i'
          obtain ⟨gb, go, rfl, hgc⟩ := (Hv.out.below (HB5.out.trans (HBr.out.mono HB5.out.size))).cell hgi
          generalize cf gl i' = g at *
          obtain ⟨y, hy⟩ : ∃ y, nx + g = y := ⟨_, rfl⟩
          have hyX : X + (8 + (g : Int)) = (y : Int) := by have := HX.out; omega
          have Hy := Lib.hid hy
          have hy2 : y ≤ 50000 := by omega
          clear hgi hy hnx2
          by_cases h' : y < 836
          · have hyI : (y : Int) < 836 := by omega
            have hst := flip8_step (g := g) ZL.out Hfl.out (by rw [Hy.out]; exact h')
            rw [Hy.out] at hst
            have Hst := Lib.hid hst
            have hLy : L[y]? = some (cf L y) := by unfold cf; rw [List.getElem?_eq_getElem (by rw [Hfl.out.len]; exact h')]; rfl
            have hc := Hr.out.cell y _ hLy
            have hf := Hr.out.free y (by rw [Hfl.out.len]; exact h')
            have Hset := Lib.hid (Hr.out.set y (cf L y ^^^ 1))
            have hxx := u8_xor1 (cf_b01 Hfl.out.b01 (by rw [Hfl.out.len]; exact h'))
            clear hst hLy
            generalize cf L y = xj at *
            go_wp2
            go_roundw
            case rel => exact ⟨i' + 1, nx + 8 + g, q + 1, y, _, by omega, by have := Hy.out; omega, rfl, by go_num, by go_num, by omega, by omega, Hst.out, Hset.out, HBr.out.setCell (p := ⟨w5.heap.size, y, none⟩) (Nat.le_refl _) _⟩
            case measure => simp [intOf]; omega
          · have hyI : ¬ (y : Int) < 836 := by omega
            have Hst := Lib.hid (flip8_far (g := g) Hfl.out)
            go_wp2
            go_roundw
            case rel => exact ⟨i' + 1, nx + 8 + g, q, y, _, by omega, by have := Hy.out; omega, rfl, rfl, by go_num, by omega, by omega, Hst.out, Hr.out, HBr.out⟩
            case measure => simp [intOf]; omega
        · obtain rfl : i' = gl.length := by omega
          have hlen := Hfl.out.len
          obtain ⟨o1, o2⟩ := flip8_ok Hfl.out
          have hbL := cells_bytes o1
          have hcs := run_toStr (Hr.out.bytes (n := 836) (c := cc) hlen.symm hc1 hc2) hlen.symm
          have hdx := dec_inter Hmb.out Hml.out H5.out hlen o1 Hfl.out.far
          rw [o2, Hfl.out.cnt, H6.out, show ((0 : Nat) : Int) = 0 from rfl] at hdx
          have HI : Hid (∀ W, Calls Tryz.prog 24 #[.string (strB L), .int .i64 8] W fun e w' => e = .returned (.tuple #[.string (strB (interL L)), .int .i64 0]) ∧ Below W.heap.size W w') := Lib.hid (fun W => by
            have h := inter_any W (strB L) (by rw [strB_size, hlen])
            rw [bs_strB hbL] at h
            exact h)
          have HDx : Hid (∀ W, Calls Tryz.prog 18 #[.string (strB (interL L))] W fun e w' => e = .returned (decR (strB (interL L))) ∧ Below W.heap.size W w') := Lib.hid (fun W => fdec_any W _ (by rw [strB_size, interL_len]; omega))
          rw [hdx] at HDx
          unfold frV qualV at HDx
          have HZr := Lib.hid (HZ5.out.keep HBr.out)
          have HBw := Lib.hid (HB5.out.trans (HBr.out.mono HB5.out.size))
          clear hlen o1 o2 hbL hdx Hr HBr Hfl HX HZ5 HB5 h hq hnx hX1 hX2 hnx2 hi
          generalize strB (interL L) = SI at *
          generalize strB L = SL at *
          generalize w5.heap.size = g5 at *
          go_upto_region 20 with (go_at_call 24; refine (HI.out _).mono ?_; rintro e w7 ⟨rfl, hb7⟩)
          have HZ7 := Lib.hid (HZr.out.keep hb7)
          have HB7 := Lib.hid (HBw.out.trans (hb7.mono HBw.out.size))
          clear hb7 HZr HBw HI hcs
          go_upto_region 21 with (go_at_call 18; refine (HDx.out _).mono ?_; rintro e w9 ⟨rfl, hb9⟩)
          obtain ⟨hA, hX⟩ := decd_new w9 k r s i l d p a t q 0 0
          have HX9 := Lib.hid hX
          have HZ9 := Lib.hid (HZ7.out.keep (hb9.trans (hA.mono hb9.size)))
          have HB9 := Lib.hid (HB7.out.trans ((hb9.trans (hA.mono hb9.size)).mono HB7.out.size))
          clear hb9 hA hX HZ7 HB7 HDx
          generalize (w9.alloc (.cells #[.int .i64 k, .int .i64 r, .int .i64 s, .int .i64 i, .int .i64 l, .int .i64 d, .int .i64 p, .int .u32 a, .string t] 26)).alloc (.cells #[.int .i64 (q : Int), .int .i64 0, .int .i64 0] 42) = v9 at *
          generalize w9.heap.size = g9 at *
          obtain ⟨⟨c0, c1, c2, c3, c4, c5, c6, c7, c8⟩, d0, d1, d2⟩ := HX9.out
          obtain ⟨f0, f1, f2, f3, f4, f5, f6, f7, f8⟩ := HZ9.out
          go_wp2_with fail
          go_ret
          exact ⟨rfl, HB9.out⟩
    · have h1 : (F != 0) = true := by simpa using h0
      clear h0 HV
      go_wp2_with (first | (go_at_call 11; refine (HTl.out _).mono ?_; rintro e w2 ⟨rfl, hb2⟩; have hz2 := HZ1.out.keep hb2; obtain ⟨a0, a1, a2, a3, a4, a5, a6, a7, a8⟩ := hz2) | (go_at_call 16; refine (HC.out _).mono ?_; rintro e w3 ⟨rfl, hb3⟩))
      go_ret
      exact ⟨rfl, HB1.out.trans ((hb2.trans (hb3.mono hb2.size)).mono HB1.out.size)⟩
end scattered

end Go.Proofs.YtbeooijgkbkniaaGreatDoor
