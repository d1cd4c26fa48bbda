/-
 WALK: stelelaw14.ScanPlacement.
-/
import Derived.Test.YtnlnmfkmbpihhaaGreatDoorScP
import Derived.Test.YtnlnmfkmbpihhaaGreatDoorScR
namespace Go.Proofs.YtnlnmfkmbpihhaaGreatDoor
open Go.RowKit

/-- A block of fourteen cells that is read. -/
abbrev BoxS (W : World) (H : Nat) (c0 c1 c2 c3 c4 c5 c6 c7 c8 c9 c10 c11 c12 c13 : Value) : Prop := W.cell? ⟨H, 0, none⟩ = some c0 ∧ W.cell? ⟨H, 1, none⟩ = some c1 ∧ W.cell? ⟨H, 2, none⟩ = some c2 ∧ W.cell? ⟨H, 3, none⟩ = some c3 ∧ W.cell? ⟨H, 4, none⟩ = some c4 ∧ W.cell? ⟨H, 5, none⟩ = some c5 ∧ W.cell? ⟨H, 6, none⟩ = some c6 ∧ W.cell? ⟨H, 7, none⟩ = some c7 ∧ W.cell? ⟨H, 8, none⟩ = some c8 ∧ W.cell? ⟨H, 9, none⟩ = some c9 ∧ W.cell? ⟨H, 10, none⟩ = some c10 ∧ W.cell? ⟨H, 11, none⟩ = some c11 ∧ W.cell? ⟨H, 12, none⟩ = some c12 ∧ W.cell? ⟨H, 13, none⟩ = some c13
theorem BoxS.keep {A B : World} {H : Nat} {c0 c1 c2 c3 c4 c5 c6 c7 c8 c9 c10 c11 c12 c13 : Value} (h : BoxS A H c0 c1 c2 c3 c4 c5 c6 c7 c8 c9 c10 c11 c12 c13) (hb : Below A.heap.size A B) : BoxS B H c0 c1 c2 c3 c4 c5 c6 c7 c8 c9 c10 c11 c12 c13 := by
 obtain ⟨h0, h1, h2, h3, h4, h5, h6, h7, h8, h9, h10, h11, h12, h13⟩ := h
 exact ⟨cell_below hb h0, cell_below hb h1, cell_below hb h2, cell_below hb h3, cell_below hb h4, cell_below hb h5, cell_below hb h6, cell_below hb h7, cell_below hb h8, cell_below hb h9, cell_below hb h10, cell_below hb h11, cell_below hb h12, cell_below hb h13⟩
theorem BoxS.blk {W : World} {g : Nat} {t : TypeId} {c0 c1 c2 c3 c4 c5 c6 c7 c8 c9 c10 c11 c12 c13 : Value} (h : Blk W g t [c0, c1, c2, c3, c4, c5, c6, c7, c8, c9, c10, c11, c12, c13]) : BoxS W g c0 c1 c2 c3 c4 c5 c6 c7 c8 c9 c10 c11 c12 c13 :=
 ⟨h.cell (i := 0) rfl, h.cell (i := 1) rfl, h.cell (i := 2) rfl, h.cell (i := 3) rfl, h.cell (i := 4) rfl, h.cell (i := 5) rfl, h.cell (i := 6) rfl, h.cell (i := 7) rfl, h.cell (i := 8) rfl, h.cell (i := 9) rfl, h.cell (i := 10) rfl, h.cell (i := 11) rfl, h.cell (i := 12) rfl, h.cell (i := 13) rfl⟩
theorem drop_at {xs : List Sgt} {q : Nat} {x : Sgt} (h : xs[q]? = some x) : xs.drop q = x :: xs.drop (q + 1) := by
 obtain ⟨h1, h2⟩ := List.getElem?_eq_some_iff.1 h
 rw [List.drop_eq_getElem_cons h1, h2]
namespace placement

set_option maxRecDepth 100000 in
set_option maxHeartbeats 16000000 in
theorem walk (w : World) (v : Value) (ps : List Prt) (hv : PartsAt w v ps) (hl : ps.length ≤ 2940000000000) (hs : ∀ p ∈ ps, p.small) : Calls Tryz.prog 3 #[v] w fun e w' => e = .returned (.bool true) ∧ Below w.heap.size w w' := by
 have HA := Lib.hid (fun W => awake_any W)
 have HC := Lib.hid (cells_any w v ps hv hl hs)
 clear hv hl hs
 go_enter Tryz.func3, Tryz.ntmps3
 go_wp2_with fail
 refine HC.out.mono ?_
 rintro e w1 ⟨S, ok, rfl, hok, hb1⟩
 have HB1 := Lib.hid hb1
 clear hb1 HC
 rcases hok with rfl | ⟨rfl, hS⟩
 ·go_wp2_with (go_at_call 14; refine (HA.out _).mono ?_; rintro e w2 ⟨rfl, hb2⟩)
  go_ret
  exact ⟨rfl, HB1.out.trans (hb2.mono HB1.out.size)⟩
 ·have HBu := Lib.hid (fun W : World => rbusy_any (W.alloc (.cells #[.string S] 9)) (.slice (some ⟨W.heap.size, 0, none⟩) 1 1) [S] 10 (strs_one W S) (by simp) (by intro x hx; obtain rfl := List.mem_singleton.1 hx; omega))
  have HP := Lib.hid (fun W : World => scpiece_any W S (by omega))
  have HPl : Hid (Placed S (-852) (scanL S 0)) := Lib.hid (scanL_placed S _ 0 rfl (-852) (by omega))
  have hxl : (scanL S 0).length ≤ 3156 := by have := scanL_len S _ 0 rfl; omega
  generalize scanL S 0 = xs at *
  have HA1 := Lib.hid (HB1.out.alloc HB1.out.size (.cells #[.string S] 9))
  go_wp2_with fail
  refine (HBu.out _).mono ?_
  rintro e w2 ⟨n, rfl, hn, hb2⟩
  have HB2 := Lib.hid (HA1.out.trans (hb2.mono HA1.out.size))
  clear hb2 HA1 HBu HB1
  rcases hn with rfl | rfl
  ·go_wp2_with fail
   obtain ⟨nx, hnx⟩ : ∃ nx, xs.length = nx := ⟨_, rfl⟩
   have Hxl := Lib.hid hnx
   rw [hnx] at hxl
   clear hnx
   go_wp2_with (go_at_call 15; refine (HP.out _).mono ?_; rintro e w3 ⟨v3, rfl, hs3, hb3⟩; obtain ⟨A3, c3, e3, hc3⟩ := SgtsAt.all hs3; rw [Hxl.out] at e3; subst e3; have HC3 := Lib.hid hc3; have HB3 := Lib.hid (HB2.out.trans (hb3.mono HB2.out.size)); clear hc3 hs3 hb3 HP)
   go_loopw [5, 30] (fun la y wx => ∃ (q : Nat) (L : Int), q ≤ nx ∧ la = .int .i64 L ∧ y = .int .i64 (q : Int) ∧ (-852 ≤ L ∧ L ≤ 4000) ∧ Placed S L (xs.drop q) ∧ Below w3.heap.size w3 wx) (fun _ y _ => nx - (intOf y).toNat)
   case atStart => exact ⟨0, -852, by omega, rfl, rfl, ⟨by omega, by omega⟩, HPl.out, Below.refl _ _⟩
   case round =>
    obtain ⟨wx, rfl⟩ : ∃ x, x = wr := ⟨_, rfl⟩
    obtain ⟨q, L, hq, rfl, rfl, hL, hpl, hB⟩ := hrel
    have HBx := Lib.hid hB
    have Hpl := Lib.hid hpl
    clear hB hpl HPl
    by_cases hq1 : q < nx
    ·have hqI : (q : Int) < nx := by omega
     obtain ⟨x, hx⟩ : ∃ x, xs[q]? = some x := ⟨_, List.getElem?_eq_getElem (by rw [Hxl.out]; exact hq1)⟩
     have hp := Hpl.out
     rw [drop_at hx] at hp
     obtain ⟨p1, p2, p3, p4, p5, p6⟩ := hp
     obtain ⟨b5, o5, rfl, hd⟩ := HC3.out q _ hx
     have hd1 := fun j u hu => cell_below HBx.out (hd j u hu)
     obtain ⟨pc, o, ⟨k, r, s, i, l, d, p, a, t⟩, ⟨y0, y1, y2⟩⟩ := x
     have c0 := hd1 0 _ rfl
     have c1 := hd1 1 _ rfl
     have c2 := hd1 2 _ rfl
     have c3 := hd1 3 _ rfl
     have c4 := hd1 4 _ rfl
     have c5 := hd1 5 _ rfl
     have c6 := hd1 6 _ rfl
     have c7 := hd1 7 _ rfl
     have c8 := hd1 8 _ rfl
     have c9 := hd1 9 _ rfl
     have c10 := hd1 10 _ rfl
     have c11 := hd1 11 _ rfl
     have c12 := hd1 12 _ rfl
     have c13 := hd1 13 _ rfl
     dsimp only at c0 c1 c2 c3 c4 c5 c6 c7 c8 c9 c10 c11 c12 c13 p1 p2 p3 p4 p5 p6
     subst p3
     rw [Nat.add_zero] at c0
     have Hp6 := Lib.hid p6
     have HF := Lib.hid (fun W => mkfind_any W S o (by omega) (by omega))
     rw [p4] at HF
     unfold findR at HF
     obtain ⟨E, hE⟩ : ∃ E, min (o + 852) S.size = E := ⟨_, rfl⟩
     have hEI : min ((o : Int) + 852) (S.size : Int) = (E : Int) := by omega
     have hE2 : E ≤ S.size := by omega
     have hE3 : o + 16 ≤ E := by omega
     have hE4 : (o : Int) + 16 ≤ E := by omega
     have hE5 : (E : Int) ≤ S.size := by omega
     have hw1 : IntKind.i64.wrap ((o : Int) + 16) = (o : Int) + 16 := IntWalk.i64_in _ (by omega)
     have hw2 : IntKind.i64.wrap ((o : Int) + 852) = (o : Int) + 852 := IntWalk.i64_in _ (by omega)
     have hw3 : IntKind.i64.wrap (L + 852) = L + 852 := IntWalk.i64_in _ (by omega)
     have ht1 : ((o : Int) + 16).toNat = o + 16 := by omega
     have ht2 : (0 : Int) ≤ (o : Int) + 16 := by omega
     have hn1 : ¬ (o : Int) < L + 852 := by omega
     have hn2 : ¬ (S.size : Int) < (o : Int) + 16 := by omega
     have HD := Lib.hid (fun W => fdec_any W (bodyAt S o) (by rw [bodyAt_size p2]; omega))
     rw [decP_eq, p5] at HD
     unfold Frm.v Qua.v frV qualV at HD
     obtain ⟨Bd, hBd⟩ : ∃ Bd, S.extract (o + 16) E = Bd := ⟨_, rfl⟩
     have hBd2 : bodyAt S o = Bd := by unfold bodyAt; rw [hE, hBd]
     rw [hBd2] at HD
     clear hE hBd2 p4 p5 p6 hd hd1 hx Hpl
     have HZ := Lib.hid (BoxS.blk (Blk.new wx 38 [.int .i64 0, .int .i64 (o : Int), .int .i64 k, .int .i64 r, .int .i64 s, .int .i64 i, .int .i64 l, .int .i64 d, .int .i64 p, .int .u32 a, .string t, .int .i64 y0, .int .i64 y1, .int .i64 y2]))
     change Hid (BoxS (wx.alloc (.cells #[.int .i64 0, .int .i64 (o : Int), .int .i64 k, .int .i64 r, .int .i64 s, .int .i64 i, .int .i64 l, .int .i64 d, .int .i64 p, .int .u32 a, .string t, .int .i64 y0, .int .i64 y1, .int .i64 y2] 38)) _ _ _ _ _ _ _ _ _ _ _ _ _ _ _) at HZ
     have HBz := Lib.hid (HBx.out.alloc HBx.out.size (.cells #[.int .i64 0, .int .i64 (o : Int), .int .i64 k, .int .i64 r, .int .i64 s, .int .i64 i, .int .i64 l, .int .i64 d, .int .i64 p, .int .u32 a, .string t, .int .i64 y0, .int .i64 y1, .int .i64 y2] 38))
     go_upto_region 8 with fail
     clear c0 c1 c2 c3 c4 c5 c6 c7 c8 c9 c10 c11 c12 c13 HBx
     generalize wx.alloc (.cells #[.int .i64 0, .int .i64 (o : Int), .int .i64 k, .int .i64 r, .int .i64 s, .int .i64 i, .int .i64 l, .int .i64 d, .int .i64 p, .int .u32 a, .string t, .int .i64 y0, .int .i64 y1, .int .i64 y2] 38) = wz at *
     obtain ⟨d0, d1, d2, d3, d4, d5, d6, d7, d8, d9, d10, d11, d12, d13⟩ := HZ.out
     go_upto_region 11 with (go_at_call 16; refine (HF.out _).mono ?_; rintro e w4 ⟨rfl, hb4⟩)
     clear d0 d1 d2 d3 d4 d5 d6 d7 d8 d9 d10 d11 d12 d13
     have HZ4 := Lib.hid (HZ.out.keep hb4)
     have HB4 := Lib.hid (HBz.out.trans (hb4.mono HBz.out.size))
     clear hb4 HZ HBz HF
     obtain ⟨d0, d1, d2, d3, d4, d5, d6, d7, d8, d9, d10, d11, d12, d13⟩ := HZ4.out
     go_upto_region 12 with (go_at_call 17; refine (HD.out _).mono ?_; rintro e w5 ⟨rfl, hb5⟩)
     clear d0 d1 d2 d3 d4 d5 d6 d7 d8 d9 d10 d11 d12 d13
     obtain ⟨hA, hX⟩ := decd_new w5 k r s i l d p a t y0 y1 y2
     have hb := hb5.trans (hA.mono hb5.size)
     have HZ5 := Lib.hid (HZ4.out.keep hb)
     have HB5 := Lib.hid (HB4.out.trans (hb.mono HB4.out.size))
     clear hb5 hA hb HZ4 HB4 HD hw1 hw2 ht1 ht2 hEI hBd
     generalize (w5.alloc (.cells #[.int .i64 k, .int .i64 r, .int .i64 s, .int .i64 i, .int .i64 l, .int .i64 d, .int .i64 p, .int .u32 a, .string t] 34)).alloc (.cells #[.int .i64 y0, .int .i64 y1, .int .i64 y2] 36) = v5 at *
     generalize w5.heap.size = g5 at *
     obtain ⟨⟨c0, c1, c2, c3, c4, c5, c6, c7, c8⟩, e0, e1, e2⟩ := hX
     obtain ⟨d0, d1, d2, d3, d4, d5, d6, d7, d8, d9, d10, d11, d12, d13⟩ := HZ5.out
     go_wp2
     go_roundw
     case rel => exact ⟨q + 1, (o : Int), by omega, rfl, by go_num, ⟨by omega, by omega⟩, Hp6.out, HB5.out⟩
     case measure => simp [intOf]; omega
    ·obtain rfl : q = nx := by omega
     have hqI : ¬ (q : Int) < q := by omega
     have HBf := Lib.hid (HB3.out.trans (HBx.out.mono HB3.out.size))
     go_wp2_with (go_at_call 14; refine (HA.out _).mono ?_; rintro e w6 ⟨rfl, hb6⟩)
     go_ret
     exact ⟨rfl, HBf.out.trans (hb6.mono HBf.out.size)⟩
  ·go_wp2_with (go_at_call 14; refine (HA.out _).mono ?_; rintro e w3 ⟨rfl, hb3⟩)
   go_ret
   exact ⟨rfl, HB2.out.trans (hb3.mono HB2.out.size)⟩
end placement
end Go.Proofs.YtnlnmfkmbpihhaaGreatDoor
