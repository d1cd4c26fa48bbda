/-
  WALK: stelelaw13.FrameBurst.
-/
import Derived.Test.YtbeooijgkbkniaaGreatDoorFrQ
namespace Go.Proofs.YtbeooijgkbkniaaGreatDoor
open Go.RowKit

def Pair2 (W : World) (H px py : Nat) : Prop := W.cell? ⟨H, 0, none⟩ = some (.int .u16 (px : Int)) ∧ W.cell? ⟨H, 1, none⟩ = some (.int .u16 (py : Int))
theorem Pair2.keep {A B : World} {H px py : Nat} (h : Pair2 A H px py) (hb : Below A.heap.size A B) : Pair2 B H px py := ⟨cell_below hb h.1, cell_below hb h.2⟩
namespace burst
set_option maxRecDepth 100000 in
set_option maxHeartbeats 16000000 in
theorem walk (w : World) (k r s i l d p a : Int) (t : ByteArray) (px py : Nat) (_hpx : px < 65536) (_hpy : py < 65536) (v : Value) (gl : List Nat) (hv : BytesAt w v gl) (hgb : Bytes gl) (ha : 0 ≤ a ∧ a < 4294967296) :
    Calls Tryz.prog 8 #[frV k r s i l d p a t, .agg #[.int .u16 (px : Int), .int .u16 (py : Int)], v] w fun e w' => e = .returned (.bool true) ∧ Below w.heap.size w w' := by
  have Hv := Lib.hid hv
  have Hgb := Lib.hid hgb
  obtain ⟨Ag, cg, rfl, hg1, hg2, hg3⟩ := hv
  clear hg3 hgb
  have HAl := Lib.hid alive_any
  have HTl := Lib.hid (fun W => tooLong_any W k r s i l d p a t)
  have HB := Lib.hid (((Below.refl w.heap.size w).alloc (Nat.le_refl _) (.cells #[.int .i64 k, .int .i64 r, .int .i64 s, .int .i64 i, .int .i64 l, .int .i64 d, .int .i64 p, .int .u32 a, .string t] 26)).alloc (by simp) (.cells #[.int .u16 (px : Int), .int .u16 (py : Int)] 49))
  have HZ := Lib.hid ((Box9.blk (Blk.new w 26 [.int .i64 k, .int .i64 r, .int .i64 s, .int .i64 i, .int .i64 l, .int .i64 d, .int .i64 p, .int .u32 a, .string t])).keep ((Below.refl _ _).alloc (Nat.le_refl _) (.cells #[.int .u16 (px : Int), .int .u16 (py : Int)] 49)))
  change Hid (Box9 ((w.alloc (.cells #[.int .i64 k, .int .i64 r, .int .i64 s, .int .i64 i, .int .i64 l, .int .i64 d, .int .i64 p, .int .u32 a, .string t] 26)).alloc (.cells #[.int .u16 (px : Int), .int .u16 (py : Int)] 49)) _ _ _ _ _ _ _ _ _ _) at HZ
  have hpr := Blk.new (w.alloc (.cells #[.int .i64 k, .int .i64 r, .int .i64 s, .int .i64 i, .int .i64 l, .int .i64 d, .int .i64 p, .int .u32 a, .string t] 26)) 49 [.int .u16 (px : Int), .int .u16 (py : Int)]
  rw [show (w.alloc (.cells #[.int .i64 k, .int .i64 r, .int .i64 s, .int .i64 i, .int .i64 l, .int .i64 d, .int .i64 p, .int .u32 a, .string t] 26)).heap.size = w.heap.size + 1 by simp] at hpr
  have HP : Hid (Pair2 ((w.alloc (.cells #[.int .i64 k, .int .i64 r, .int .i64 s, .int .i64 i, .int .i64 l, .int .i64 d, .int .i64 p, .int .u32 a, .string t] 26)).alloc (.cells #[.int .u16 (px : Int), .int .u16 (py : Int)] 49)) (w.heap.size + 1) px py) := Lib.hid ⟨hpr.cell (i := 0) rfl, hpr.cell (i := 1) rfl⟩
  clear hpr
  have HE := Lib.hid (fun (h : t.size ≤ 1000) W => fenc_any W k r s i l d p a t h ha)
  have HC := Lib.hid (fun (h : t.size ≤ 1000) W => fcheck_any W k r s i l d p a t h)
  have HV := Lib.hid (fun (h : frE k r s i l d p t = 0) => valid_parts h ha)
  obtain ⟨F, hF⟩ : ∃ F, frE k r s i l d p t = F := ⟨_, rfl⟩
  rw [hF] at HC HV
  clear hF ha
  unfold frV at HTl HE HC ⊢
  obtain ⟨big, hbig⟩ : ∃ x, decide (200 < t.size) = x := ⟨_, rfl⟩
  rw [hbig] at HTl
  go_enter Tryz.func8, Tryz.ntmps8
  go_upto_region 1 with fail
  generalize (w.alloc (.cells #[.int .i64 k, .int .i64 r, .int .i64 s, .int .i64 i, .int .i64 l, .int .i64 d, .int .i64 p, .int .u32 a, .string t] 26)).alloc (.cells #[.int .u16 (px : Int), .int .u16 (py : Int)] 49) = w0 at *
  go_upto_region 3 with (go_at_call 10; refine (HAl.out _).mono ?_; rintro e w1 ⟨rfl, hb1⟩)
  have HZ1 := Lib.hid (HZ.out.keep hb1)
  have HP1 := Lib.hid (HP.out.keep hb1)
  have HB1 := Lib.hid (HB.out.trans (hb1.mono HB.out.size))
  clear hb1 HZ HB HAl HP
  obtain ⟨c0, c1, c2, c3, c4, c5, c6, c7, c8⟩ := HZ1.out
  cases big with
  | true =>
    clear hbig
    go_wp2_with (go_at_call 11; refine (HTl.out _).mono ?_; rintro e w2 ⟨rfl, hb2⟩)
    go_ret
    exact ⟨rfl, HB1.out.trans (hb2.mono HB1.out.size)⟩
  | false =>
    have ht : t.size ≤ 200 := by have := of_decide_eq_false hbig; omega
    have HE := Lib.hid (HE.out (by omega))
    have HC := Lib.hid (HC.out (by omega))
    clear hbig ht
    by_cases h0 : F = 0
    · subst h0
      by_cases hgl : 90 < gl.length
      · have hglI : (90 : Int) < gl.length := by omega
        clear hgl HV HE
        go_wp2_with (first | (go_at_call 11; refine (HTl.out _).mono ?_; rintro e w2 ⟨rfl, hb2⟩; have hz2 := HZ1.out.keep hb2; obtain ⟨a0, a1, a2, a3, a4, a5, a6, a7, a8⟩ := hz2) | (go_at_call 16; refine (HC.out _).mono ?_; rintro e w3 ⟨rfl, hb3⟩))
        go_ret
        exact ⟨rfl, HB1.out.trans ((hb2.trans (hb3.mono hb2.size)).mono HB1.out.size)⟩
      have hglI : ¬ (90 : Int) < gl.length := by omega
      obtain ⟨m, hmb, hml, _, _, e3, _, e5, e6⟩ := HV.out rfl
      have H5 := Lib.hid e5
      have H6 := Lib.hid e6
      have Hmb := Lib.hid hmb
      have Hml := Lib.hid hml
      have zB : (strB (bodyL m)).size = 836 := by rw [strB_size, bodyL_len]
      have zL := bodyL_len m
      have bL := bodyL_01 hmb hml
      have yL := bodyL_bytes hmb hml
      rw [e3] at HE
      have zC : (markS ++ strB (bodyL m)).size = 852 := by rw [ByteArray.size_append, mark_size, zB]
      have zX : (markS ++ strB (bodyL m)).extract 16 852 = strB (bodyL m) := mark_drop _ _ (by omega)
      have hbs : bs (strB (bodyL m)) = bodyL m := bs_strB yL
      have ZL := Lib.hid zL
      have BL := Lib.hid bL
      have Hbs := Lib.hid hbs
      clear e3 e5 e6 hmb hml zL bL yL hbs
      generalize strB (bodyL m) = Bd at *
      generalize markS ++ Bd = C at *
      go_upto_region 5 with (first | (go_at_call 11; refine (HTl.out _).mono ?_; rintro e w2 ⟨rfl, hb2⟩; have hz2 := HZ1.out.keep hb2; obtain ⟨a0, a1, a2, a3, a4, a5, a6, a7, a8⟩ := hz2) | (go_at_call 16; refine (HC.out _).mono ?_; rintro e w3 ⟨rfl, hb3⟩))
      have hb23 := hb2.trans (hb3.mono hb2.size)
      have HZ3 := Lib.hid (HZ1.out.keep hb23)
      have HP3 := Lib.hid (HP1.out.keep hb23)
      have HB3 := Lib.hid (HB1.out.trans (hb23.mono HB1.out.size))
      clear hb2 hb3 hb23 HP1 HZ1 HB1 HTl HC a0 a1 a2 a3 a4 a5 a6 a7 a8 c0 c1 c2 c3 c4 c5 c6 c7 c8
      obtain ⟨c0, c1, c2, c3, c4, c5, c6, c7, c8⟩ := HZ3.out
      go_upto_region 6 with (go_at_call 22; refine (HE.out _).mono ?_; rintro e w4 ⟨rfl, hb4⟩)
      have HZ4 := Lib.hid (HZ3.out.keep hb4)
      have HP4 := Lib.hid (HP3.out.keep hb4)
      have HB4 := Lib.hid (HB3.out.trans (hb4.mono HB3.out.size))
      clear hb4 HZ3 HB3 HE HP3 c0 c1 c2 c3 c4 c5 c6 c7 c8
      obtain ⟨cc, w6, hcv, hc1, hc2, hrow, hbb, hsz6⟩ := run_toBytes w4 Bd (by rw [zB]; omega)
      rw [zB] at hcv hc1
      rw [Hbs.out] at hrow
      have Hrow := Lib.hid hrow
      have Hbb := Lib.hid hbb
      obtain ⟨p0, p1⟩ := HP4.out.keep hbb
      obtain ⟨f, hf⟩ : ∃ f, px % 836 = f := ⟨_, rfl⟩
      have hfI : (px : Int) % 836 = (f : Int) := by omega
      have hf8 : f < 836 := by omega
      have HF0 := Lib.hid (burst_zero f ZL.out BL.out)
      have hgl2 : gl.length ≤ 90 := by omega
      obtain ⟨K, hK⟩ : ∃ K, py % 91 = K := ⟨_, rfl⟩
      have HK : Hid ((py : Int) % 91 = (K : Int)) := Lib.hid (by omega)
      have HfI := Lib.hid hfI
      have hK90 : K ≤ 90 := by omega
      clear hrow hbb hsz6 hgl hglI hf hK hfI
      go_wp2
      clear hcv p0 p1
      generalize (px : Int) % 836 = fi at *
      obtain rfl : fi = (f : Int) := HfI.out
      clear HfI
      go_loopw [11] (fun x wr => ∃ (n : Nat) (L : List Nat), n ≤ K ∧ x = .int .i64 (n : Int) ∧ Burst (bodyL m) f n L ∧ RowB wr w4.heap.size L ∧ Below w4.heap.size w4 wr) (fun x _ => 90 - (intOf x).toNat)
      case atStart => exact ⟨0, bodyL m, by omega, rfl, HF0.out, Hrow.out, Hbb.out⟩
      case round =>
        obtain ⟨n, L, hn, rfl, hfl, hr, hB⟩ := hrel
        clear HF0 Hrow Hbb
        have Hfl := Lib.hid hfl
        have Hr := Lib.hid hr
        have HBr := Lib.hid hB
        obtain ⟨p0, p1⟩ := HP4.out.keep hB
        clear hfl hr hB
        by_cases h : n < K ∧ f + n < 836
        · obtain ⟨h, h'⟩ := h
          have hnI : (n : Int) < (py : Int) % 91 := by have := HK.out; omega
          have hn9 : n < 90 := by omega
          obtain ⟨y, hy⟩ : ∃ y, f + n = y := ⟨_, rfl⟩
          have hyX : (f : Int) + (n : Int) = (y : Int) := by omega
          have hyI : (y : Int) < 836 := by omega
          have Hy := Lib.hid hy
          have hy8 : y < 836 := by omega
          have hLc : cf L y = cf (bodyL m) y := Hfl.out.out y hy8 (by omega)
          have hx01 := cf_b01 BL.out (i := y) (by rw [ZL.out]; exact hy8)
          rw [← hLc] at hx01
          have hLy : L[y]? = some (cf L y) := by unfold cf; rw [List.getElem?_eq_getElem (by rw [Hfl.out.len]; exact hy8)]; rfl
          have hc := Hr.out.cell y _ hLy
          have hfr := Hr.out.free y (by rw [Hfl.out.len]; exact hy8)
          have hxx := u8_xor1 hx01
          have hinv : ∃ L2, Burst (bodyL m) f (n + 1) L2 ∧ RowB (wr.setCell ⟨w4.heap.size, y, none⟩ (.int .u8 ((cf L y ^^^ 1 : Nat) : Int))) w4.heap.size L2 := by
            refine ⟨_, ?_, Hr.out.set y (cf L y ^^^ 1)⟩
            rw [← hy]
            exact burst_step Hfl.out (by rw [hy]; rcases (xor1_cell hx01).1 with e | e <;> rw [e] <;> decide) h'
          have hopn : ∃ L2, Burst (bodyL m) f (n + 1) L2 ∧ RowB (wr.setCell ⟨w4.heap.size, y, none⟩ (.int .u8 63)) w4.heap.size L2 := by
            refine ⟨_, ?_, Hr.out.set y 63⟩
            rw [← hy]
            exact burst_step Hfl.out (by decide) h'
          have hsame := burst_more Hfl.out
          have Hinv := Lib.hid hinv
          have Hopn := Lib.hid hopn
          have Hsame := Lib.hid hsame
          clear hLc hx01 hLy hinv hopn hsame hy h'
          generalize cf L y = xj at *
          by_cases hg : n < gl.length
          · have hgI : (n : Int) < gl.length := by omega
            have hgi : gl[n]? = some (cf gl n) := by unfold cf; rw [List.getElem?_eq_getElem hg]; rfl
            have hg8 : cf gl n < 256 := cf_lt Hgb.out n
            obtain ⟨gb, go, rfl, hgc⟩ := (Hv.out.below (HB4.out.trans (HBr.out.mono HB4.out.size))).cell hgi
            generalize cf gl n = g at *
            clear hgi
            rcases (by omega : (g : Int) % 3 = 0 ∨ (g : Int) % 3 = 1 ∨ (g : Int) % 3 = 2) with hm | hm | hm
            · have hm0 : ((g : Int) % 3 == 0) = true := by rw [beq_iff_eq]; exact hm
              clear hm
              obtain ⟨L2, e1, e2⟩ := Hopn.out
              have E1 := Lib.hid e1
              have E2 := Lib.hid e2
              clear e1 e2 hxx
              go_wp2
              go_roundw
              case rel => exact ⟨n + 1, L2, by omega, by go_num, E1.out, E2.out, HBr.out.setCell (p := ⟨w4.heap.size, y, none⟩) (Nat.le_refl _) _⟩
              case measure => simp [intOf]; omega
            · have hm0 : ((g : Int) % 3 == 0) = false := by rw [beq_eq_false_iff_ne]; omega
              have hm1 : ((g : Int) % 3 == 1) = true := by rw [beq_iff_eq]; exact hm
              clear hm
              obtain ⟨L2, e1, e2⟩ := Hinv.out
              have E1 := Lib.hid e1
              have E2 := Lib.hid e2
              clear e1 e2
              go_wp2
              go_roundw
              case rel => exact ⟨n + 1, L2, by omega, by go_num, E1.out, E2.out, HBr.out.setCell (p := ⟨w4.heap.size, y, none⟩) (Nat.le_refl _) _⟩
              case measure => simp [intOf]; omega
            · have hm0 : ((g : Int) % 3 == 0) = false := by rw [beq_eq_false_iff_ne]; omega
              have hm1 : ((g : Int) % 3 == 1) = false := by rw [beq_eq_false_iff_ne]; omega
              clear hm hxx
              go_wp2
              go_roundw
              case rel => exact ⟨n + 1, L, by omega, by go_num, Hsame.out, Hr.out, HBr.out⟩
              case measure => simp [intOf]; omega
          · have hgI : ¬ (n : Int) < gl.length := by omega
            have hgJ : (gl.length : Int) ≤ n := by omega
            obtain ⟨L2, e1, e2⟩ := Hinv.out
            have E1 := Lib.hid e1
            have E2 := Lib.hid e2
            clear e1 e2
            go_wp2
            go_roundw
            case rel => exact ⟨n + 1, L2, by omega, by go_num, E1.out, E2.out, HBr.out.setCell (p := ⟨w4.heap.size, y, none⟩) (Nat.le_refl _) _⟩
            case measure => simp [intOf]; omega
        · have hlen := Hfl.out.len
          have hbL := cells_bytes Hfl.out.ok
          have hcs := run_toStr (Hr.out.bytes (n := 836) (c := cc) hlen.symm hc1 hc2) hlen.symm
          obtain ⟨z0, z1, hdx⟩ := burst_dec Hmb.out Hml.out H5.out Hfl.out (by omega)
          rw [H6.out] at hdx
          have HDx : Hid (∀ W, Calls Tryz.prog 18 #[.string (strB L)] W fun e w' => e = .returned (decR (strB L)) ∧ Below W.heap.size W w') := Lib.hid (fun W => fdec_any W _ (by rw [strB_size, hlen]; omega))
          rw [hdx] at HDx
          unfold frV qualV at HDx
          have HZr := Lib.hid (HZ4.out.keep HBr.out)
          have HBw := Lib.hid (HB4.out.trans (HBr.out.mono HB4.out.size))
          clear hlen hbL hdx Hr HBr Hfl HZ4 HB4
          generalize strB L = SL at *
          generalize w4.heap.size = g5 at *
          by_cases hk : n < K
          case' pos =>
            have hnI : (n : Int) < (py : Int) % 91 := by have := HK.out; omega
            have hyI : (836 : Int) ≤ (f : Int) + n := by omega
          case' neg =>
            have hnI : ¬ (n : Int) < (py : Int) % 91 := by have := HK.out; omega
          all_goals
            clear h hn hk
            go_upto_region 17 with (go_at_call 18; refine (HDx.out _).mono ?_; rintro e w9 ⟨rfl, hb9⟩)
            obtain ⟨hA, hX⟩ := decd_new w9 k r s i l d p a t z0 z1 0
            have HX9 := Lib.hid hX
            have HZ9 := Lib.hid (HZr.out.keep (hb9.trans (hA.mono hb9.size)))
            have HB9 := Lib.hid (HBw.out.trans ((hb9.trans (hA.mono hb9.size)).mono HBw.out.size))
            clear hb9 hA hX HZr HBw HDx
            generalize (w9.alloc (.cells #[.int .i64 k, .int .i64 r, .int .i64 s, .int .i64 i, .int .i64 l, .int .i64 d, .int .i64 p, .int .u32 a, .string t] 26)).alloc (.cells #[.int .i64 z0, .int .i64 z1, .int .i64 0] 42) = v9 at *
            generalize w9.heap.size = g9 at *
            obtain ⟨⟨c0, c1, c2, c3, c4, c5, c6, c7, c8⟩, _, _, _⟩ := HX9.out
            obtain ⟨f0, f1, f2, f3, f4, f5, f6, f7, f8⟩ := HZ9.out
            go_wp2_with fail
            go_ret
            exact ⟨rfl, HB9.out⟩
    · have h1 : (F != 0) = true := by simpa using h0
      clear h0 HV
      go_wp2_with (first | (go_at_call 11; refine (HTl.out _).mono ?_; rintro e w2 ⟨rfl, hb2⟩; have hz2 := HZ1.out.keep hb2; obtain ⟨a0, a1, a2, a3, a4, a5, a6, a7, a8⟩ := hz2) | (go_at_call 16; refine (HC.out _).mono ?_; rintro e w3 ⟨rfl, hb3⟩))
      go_ret
      exact ⟨rfl, HB1.out.trans ((hb2.trans (hb3.mono hb2.size)).mono HB1.out.size)⟩
end burst

end Go.Proofs.YtbeooijgkbkniaaGreatDoor
