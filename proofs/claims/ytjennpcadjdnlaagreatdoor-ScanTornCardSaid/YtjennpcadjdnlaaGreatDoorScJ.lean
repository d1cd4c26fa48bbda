/-
  WALK: stelelaw14.ScanTorn.
-/
import Derived.Test.YtjennpcadjdnlaaGreatDoorScI
namespace Go.Proofs.YtjennpcadjdnlaaGreatDoor.torn
open Go.RowKit

theorem fence {k r s i l d p a : Int} {t : ByteArray} : (fE ⟨k, r, s, i, l, d, p, a, t⟩) = frE k r s i l d p t := rfl
theorem torn_str {l : List Nat} (hb : Bytes l) (n : Nat) : (strB l).extract 0 n = strB (l.take n) := by
  apply bs_inj
  rw [bs_extract, bs_strB hb, List.drop_zero, bs_strB fun x hx => hb x (List.mem_of_mem_take hx)]

set_option maxRecDepth 100000 in
set_option maxHeartbeats 8000000 in
theorem walk (w : World) (k r s i l d p a : Int) (t : ByteArray) (n : Nat) (hn : n < 256) (ha : 0 ≤ a ∧ a < 4294967296) :
    Calls Tryz.prog 8 #[frV k r s i l d p a t, .int .u8 (n : Int)] w fun e w' => e = .returned (.bool true) ∧ Below w.heap.size w w' := by
  have HE := Lib.hid (fun W => fenc_all W k r s i l d p a t ha)
  have HA := Lib.hid (fun W => awake_any W)
  have HB := Lib.hid ((Below.refl w.heap.size w).alloc (Nat.le_refl _) (.cells #[.int .i64 k, .int .i64 r, .int .i64 s, .int .i64 i, .int .i64 l, .int .i64 d, .int .i64 p, .int .u32 a, .string t] 26))
  have HZ := Lib.hid (Box9.blk (Blk.new w 26 [.int .i64 k, .int .i64 r, .int .i64 s, .int .i64 i, .int .i64 l, .int .i64 d, .int .i64 p, .int .u32 a, .string t]))
  change Hid (Box9 (w.alloc (.cells #[.int .i64 k, .int .i64 r, .int .i64 s, .int .i64 i, .int .i64 l, .int .i64 d, .int .i64 p, .int .u32 a, .string t] 26)) _ _ _ _ _ _ _ _ _ _) at HZ
  by_cases h0 : frE k r s i l d p t = 0
  · obtain ⟨hm, hc⟩ := msgOf_msg (f := ⟨k, r, s, i, l, d, p, a, t⟩) h0 ha
    dsimp only at hc
    rw [hc] at HE
    obtain ⟨q, hq⟩ := scan_torn hm (n := n % 91) (by omega)
    have hby : Bytes (markL ++ bodyL (msgOf ⟨k, r, s, i, l, d, p, a, t⟩)) := bytes_app (b01_bytes markL_01) (bodyL_bytes hm.bytes hm.len)
    have hex := torn_str hby (852 - n % 91)
    have hsz : (strB (markL ++ bodyL (msgOf ⟨k, r, s, i, l, d, p, a, t⟩))).size = 852 := by rw [strB_size, List.length_append, markL_len, bodyL_len]
    have hsz2 : (strB ((markL ++ bodyL (msgOf ⟨k, r, s, i, l, d, p, a, t⟩)).take (852 - n % 91))).size ≤ 1000000 := by
      rw [strB_size, List.length_take]
      omega
    have hP := fun W => scpiece_any W (strB ((markL ++ bodyL (msgOf ⟨k, r, s, i, l, d, p, a, t⟩)).take (852 - n % 91))) hsz2
    rw [hq, ← hex] at hP
    have HP := Lib.hid hP
    clear hc hm hq hby hex hsz2 hP h0 ha
    generalize strB (markL ++ bodyL (msgOf ⟨k, r, s, i, l, d, p, a, t⟩)) = C at *
    obtain ⟨K, hK⟩ : ∃ K, n % 91 = K := ⟨_, rfl⟩
    have HK : Hid ((n : Int) % 91 = (K : Int)) := Lib.hid (by omega)
    have hK2 : K ≤ 90 := by omega
    rw [hK] at HP
    have HS : Hid (852 - (K : Int) = ((852 - K : Nat) : Int)) := Lib.hid (by omega)
    clear hK
    unfold frV at HE ⊢
    go_enter Tryz.func8, Tryz.ntmps8
    go_upto_region 1 with fail
    generalize w.alloc (.cells #[.int .i64 k, .int .i64 r, .int .i64 s, .int .i64 i, .int .i64 l, .int .i64 d, .int .i64 p, .int .u32 a, .string t] 26) = wz at *
    obtain ⟨c0, c1, c2, c3, c4, c5, c6, c7, c8⟩ := HZ.out
    go_upto_region 5 with (go_at_call 25; refine (HE.out _).mono ?_; rintro e wy ⟨rfl, hby⟩)
    have HZy := Lib.hid (HZ.out.keep hby)
    have HBy := Lib.hid (HB.out.trans (hby.mono HB.out.size))
    clear c0 c1 c2 c3 c4 c5 c6 c7 c8 hby HZ HB HE
    have e91 : (n : Int) % 91 = (K : Int) := HK.out
    rw [e91]
    go_upto_region 8 with (go_at_call 21; refine (HP.out _).mono ?_; rintro e w5 ⟨v, rfl, hsg, hb5⟩)
    obtain ⟨g, c, rfl, hc⟩ := SgtsAt.at hsg (by simp)
    have HZ5 := Lib.hid (HZy.out.keep hb5)
    have HB5 := Lib.hid (HBy.out.trans (hb5.mono HBy.out.size))
    have HC : Hid (w5.cell? ⟨g, 2, none⟩ = some (.int .i64 k) ∧ w5.cell? ⟨g, 3, none⟩ = some (.int .i64 r) ∧ w5.cell? ⟨g, 4, none⟩ = some (.int .i64 s) ∧ w5.cell? ⟨g, 5, none⟩ = some (.int .i64 i) ∧ w5.cell? ⟨g, 6, none⟩ = some (.int .i64 l) ∧ w5.cell? ⟨g, 7, none⟩ = some (.int .i64 d) ∧ w5.cell? ⟨g, 8, none⟩ = some (.int .i64 p) ∧ w5.cell? ⟨g, 9, none⟩ = some (.int .u32 a) ∧ w5.cell? ⟨g, 10, none⟩ = some (.string t) ∧ w5.cell? ⟨g, 12, none⟩ = some (.int .i64 (K : Int))) :=
      Lib.hid ⟨hc 0 _ rfl 2 _ rfl, hc 0 _ rfl 3 _ rfl, hc 0 _ rfl 4 _ rfl, hc 0 _ rfl 5 _ rfl, hc 0 _ rfl 6 _ rfl, hc 0 _ rfl 7 _ rfl, hc 0 _ rfl 8 _ rfl, hc 0 _ rfl 9 _ rfl, hc 0 _ rfl 10 _ rfl, hc 0 _ rfl 12 _ rfl⟩
    clear hc hsg hb5 HZy HBy HP
    refine wp_region_held_drew (S := (fun W => Box9 W w.heap.size (.int .i64 k) (.int .i64 r) (.int .i64 s) (.int .i64 i) (.int .i64 l) (.int .i64 d) (.int .i64 p) (.int .u32 a) (.string t) ∧ (W.cell? ⟨g, 2, none⟩ = some (.int .i64 k) ∧ W.cell? ⟨g, 3, none⟩ = some (.int .i64 r) ∧ W.cell? ⟨g, 4, none⟩ = some (.int .i64 s) ∧ W.cell? ⟨g, 5, none⟩ = some (.int .i64 i) ∧ W.cell? ⟨g, 6, none⟩ = some (.int .i64 l) ∧ W.cell? ⟨g, 7, none⟩ = some (.int .i64 d) ∧ W.cell? ⟨g, 8, none⟩ = some (.int .i64 p) ∧ W.cell? ⟨g, 9, none⟩ = some (.int .u32 a) ∧ W.cell? ⟨g, 10, none⟩ = some (.string t) ∧ W.cell? ⟨g, 12, none⟩ = some (.int .i64 (K : Int))))) (by kernel_rfl) ?_ (fun hHeld => ?_)
    · (first | exact ⟨HZ5.out, HC.out⟩ | exact ⟨HZ5.out.drw, HC.out⟩ | exact ⟨HZ5.out.drw.keep hb6, cell_below hb6 HC.out.1, cell_below hb6 HC.out.2.1, cell_below hb6 HC.out.2.2.1, cell_below hb6 HC.out.2.2.2.1, cell_below hb6 HC.out.2.2.2.2.1, cell_below hb6 HC.out.2.2.2.2.2.1, cell_below hb6 HC.out.2.2.2.2.2.2.1, cell_below hb6 HC.out.2.2.2.2.2.2.2.1, cell_below hb6 HC.out.2.2.2.2.2.2.2.2.1, cell_below hb6 HC.out.2.2.2.2.2.2.2.2.2⟩)
    refine wpAnyH_take (i := 0) (oi := _) (v := ?va1) rfl (by kernel_rfl) (by kernel_rfl) (by kernel_rfl) (fun _ _ _ h => h) (Or.inl ⟨by rfl, ?hya1⟩) (by assumption) ?resta1
    case hya1 => ((intro W hSw; (try dsimp only at hSw); go_simp; try with_reducible rfl))
    try simp only [Act.put, List.setIfInBounds_toArray]
    try simp only [List.getElem_toArray, List.getElem_cons_zero]
    refine wpAnyH_take (i := 1) (oi := _) (v := ?va2) rfl (by kernel_rfl) (by kernel_rfl) (by kernel_rfl) (fun _ _ _ h => h) (Or.inl ⟨by rfl, ?hya2⟩) (by assumption) ?resta2
    case hya2 => ((intro W hSw; (try dsimp only at hSw); go_simp; try with_reducible rfl))
    try simp only [Act.put, List.setIfInBounds_toArray, List.set_cons_zero, List.set_cons_succ]
    try simp only [List.getElem_toArray, List.getElem_cons_zero, List.getElem_cons_succ]
    refine wpAnyH_take (i := 2) (oi := _) (v := ?va3) rfl (by kernel_rfl) (by kernel_rfl) (by kernel_rfl) (fun _ _ _ h => h) (Or.inl ⟨by rfl, ?hya3⟩) (by assumption) ?resta3
    case hya3 => ((intro W hSw; (try dsimp only at hSw); go_simp; try with_reducible rfl))
    try simp only [Act.put, List.setIfInBounds_toArray, List.set_cons_zero, List.set_cons_succ]
    try simp only [List.getElem_toArray, List.getElem_cons_zero, List.getElem_cons_succ]
    refine wpAnyH_take (i := 3) (oi := _) (v := ?va4) rfl (by kernel_rfl) (by kernel_rfl) (by kernel_rfl) (fun _ _ _ h => h) (Or.inl ⟨by rfl, ?hya4⟩) (by assumption) ?resta4
    case hya4 => ((intro W hSw; (try dsimp only at hSw); go_simp; try with_reducible rfl))
    try simp only [Act.put, List.setIfInBounds_toArray, List.set_cons_zero, List.set_cons_succ]
    try simp only [List.getElem_toArray, List.getElem_cons_zero, List.getElem_cons_succ]
    refine wpAnyH_take (i := 4) (oi := _) (v := ?va5) rfl (by kernel_rfl) (by kernel_rfl) (by kernel_rfl) (fun _ _ _ h => h) (Or.inl ⟨by rfl, ?hya5⟩) (by assumption) ?resta5
    case hya5 => ((intro W hSw; (try dsimp only at hSw); go_simp; try with_reducible rfl))
    try simp only [Act.put, List.setIfInBounds_toArray, List.set_cons_zero, List.set_cons_succ]
    try simp only [List.getElem_toArray, List.getElem_cons_zero, List.getElem_cons_succ]
    refine wpAnyH_take (i := 5) (oi := _) (v := ?va6) rfl (by kernel_rfl) (by kernel_rfl) (by kernel_rfl) (fun _ _ _ h => h) (Or.inl ⟨by rfl, ?hya6⟩) (by assumption) ?resta6
    case hya6 => ((intro W hSw; (try dsimp only at hSw); go_simp; try with_reducible rfl))
    try simp only [Act.put, List.setIfInBounds_toArray, List.set_cons_zero, List.set_cons_succ]
    try simp only [List.getElem_toArray, List.getElem_cons_zero, List.getElem_cons_succ]
    refine wpAnyH_take (i := 6) (oi := _) (v := ?va7) rfl (by kernel_rfl) (by kernel_rfl) (by kernel_rfl) (fun _ _ _ h => h) (Or.inl ⟨by rfl, ?hya7⟩) (by assumption) ?resta7
    case hya7 => ((intro W hSw; (try dsimp only at hSw); go_simp; try with_reducible rfl))
    try simp only [Act.put, List.setIfInBounds_toArray, List.set_cons_zero, List.set_cons_succ]
    try simp only [List.getElem_toArray, List.getElem_cons_zero, List.getElem_cons_succ]
    refine wpAnyH_take (i := 7) (oi := _) (v := ?va8) rfl (by kernel_rfl) (by kernel_rfl) (by kernel_rfl) (fun _ _ _ h => h) (Or.inl ⟨by rfl, ?hya8⟩) (by assumption) ?resta8
    case hya8 => ((intro W hSw; (try dsimp only at hSw); go_simp; try with_reducible rfl))
    try simp only [Act.put, List.setIfInBounds_toArray, List.set_cons_zero, List.set_cons_succ]
    try simp only [List.getElem_toArray, List.getElem_cons_zero, List.getElem_cons_succ]
    refine wpAnyH_take (i := 8) (oi := _) (v := ?va9) rfl (by kernel_rfl) (by kernel_rfl) (by kernel_rfl) (fun _ _ _ h => h) (Or.inl ⟨by rfl, ?hya9⟩) (by assumption) ?resta9
    case hya9 => ((intro W hSw; (try dsimp only at hSw); go_simp; try with_reducible rfl))
    try simp only [Act.put, List.setIfInBounds_toArray, List.set_cons_zero, List.set_cons_succ]
    try simp only [List.getElem_toArray, List.getElem_cons_zero, List.getElem_cons_succ]
    refine wpAnyH_take (i := 9) (oi := _) (v := ?va10) rfl (by kernel_rfl) (by kernel_rfl) (by kernel_rfl) (fun _ _ _ h => h) (Or.inl ⟨by rfl, ?hya10⟩) (by assumption) ?resta10
    case hya10 => ((intro W hSw; (try dsimp only at hSw); go_simp; try with_reducible rfl))
    try simp only [Act.put, List.setIfInBounds_toArray, List.set_cons_zero, List.set_cons_succ]
    try simp only [List.getElem_toArray, List.getElem_cons_zero, List.getElem_cons_succ]
    refine wpAnyH_take (i := 10) (oi := _) (v := ?va11) rfl (by kernel_rfl) (by kernel_rfl) (by kernel_rfl) (fun _ _ _ h => h) (Or.inl ⟨by rfl, ?hya11⟩) (by assumption) ?resta11
    case hya11 => ((intro W hSw; (try dsimp only at hSw); go_simp; try with_reducible rfl))
    try simp only [Act.put, List.setIfInBounds_toArray, List.set_cons_zero, List.set_cons_succ]
    try simp only [List.getElem_toArray, List.getElem_cons_zero, List.getElem_cons_succ]
    refine wpAnyH_take (i := 11) (oi := _) (v := ?va12) rfl (by kernel_rfl) (by kernel_rfl) (by kernel_rfl) (fun _ _ _ h => h) (Or.inl ⟨by rfl, ?hya12⟩) (by assumption) ?resta12
    case hya12 => ((intro W hSw; (try dsimp only at hSw); go_simp; try with_reducible rfl))
    try simp only [Act.put, List.setIfInBounds_toArray, List.set_cons_zero, List.set_cons_succ]
    try simp only [List.getElem_toArray, List.getElem_cons_zero, List.getElem_cons_succ]
    refine wpAnyH_take (i := 12) (oi := _) (v := ?va13) rfl (by kernel_rfl) (by kernel_rfl) (by kernel_rfl) (fun _ _ _ h => h) (Or.inl ⟨by rfl, ?hya13⟩) (by assumption) ?resta13
    case hya13 => ((intro W hSw; (try dsimp only at hSw); go_simp; try with_reducible rfl))
    try simp only [Act.put, List.setIfInBounds_toArray, List.set_cons_zero, List.set_cons_succ]
    try simp only [List.getElem_toArray, List.getElem_cons_zero, List.getElem_cons_succ]
    refine wpAnyH_take (i := 13) (oi := _) (v := ?va14) rfl (by kernel_rfl) (by kernel_rfl) (by kernel_rfl) (fun _ _ _ h => h) (Or.inl ⟨by rfl, ?hya14⟩) (by assumption) ?resta14
    case hya14 => ((intro W hSw; (try dsimp only at hSw); go_simp; try with_reducible rfl))
    try simp only [Act.put, List.setIfInBounds_toArray, List.set_cons_zero, List.set_cons_succ]
    try simp only [List.getElem_toArray, List.getElem_cons_zero, List.getElem_cons_succ]
    refine wpAnyH_take (i := 14) (oi := _) (v := ?va15) rfl (by kernel_rfl) (by kernel_rfl) (by kernel_rfl) (fun _ _ _ h => h) (Or.inl ⟨by rfl, ?hya15⟩) (by assumption) ?resta15
    case hya15 => ((intro W hSw; (try dsimp only at hSw); go_simp; try with_reducible rfl))
    try simp only [Act.put, List.setIfInBounds_toArray, List.set_cons_zero, List.set_cons_succ]
    try simp only [List.getElem_toArray, List.getElem_cons_zero, List.getElem_cons_succ]
    refine wpAnyH_take (i := 15) (oi := _) (v := ?va16) rfl (by kernel_rfl) (by kernel_rfl) (by kernel_rfl) (fun _ _ _ h => h) (Or.inl ⟨by rfl, ?hya16⟩) (by assumption) ?resta16
    case hya16 => ((intro W hSw; (try dsimp only at hSw); go_simp; try with_reducible rfl))
    try simp only [Act.put, List.setIfInBounds_toArray, List.set_cons_zero, List.set_cons_succ]
    try simp only [List.getElem_toArray, List.getElem_cons_zero, List.getElem_cons_succ]
    refine wpAnyH_take (i := 16) (oi := _) (v := ?va17) rfl (by kernel_rfl) (by kernel_rfl) (by kernel_rfl) (fun _ _ _ h => h) (Or.inl ⟨by rfl, ?hya17⟩) (by assumption) ?resta17
    case hya17 => ((intro W hSw; (try dsimp only at hSw); go_simp; try with_reducible rfl))
    try simp only [Act.put, List.setIfInBounds_toArray, List.set_cons_zero, List.set_cons_succ]
    try simp only [List.getElem_toArray, List.getElem_cons_zero, List.getElem_cons_succ]
    refine wpAnyH_take (i := 17) (oi := _) (v := ?va18) rfl (by kernel_rfl) (by kernel_rfl) (by kernel_rfl) (fun _ _ _ h => h) (Or.inl ⟨by rfl, ?hya18⟩) (by assumption) ?resta18
    case hya18 => ((intro W hSw; (try dsimp only at hSw); go_simp; try with_reducible rfl))
    try simp only [Act.put, List.setIfInBounds_toArray, List.set_cons_zero, List.set_cons_succ]
    try simp only [List.getElem_toArray, List.getElem_cons_zero, List.getElem_cons_succ]
    refine wpAnyH_take (i := 18) (oi := _) (v := ?va19) rfl (by kernel_rfl) (by kernel_rfl) (by kernel_rfl) (fun _ _ _ h => h) (Or.inl ⟨by rfl, ?hya19⟩) (by assumption) ?resta19
    case hya19 => ((intro W hSw; (try dsimp only at hSw); go_simp; try with_reducible rfl))
    try simp only [Act.put, List.setIfInBounds_toArray, List.set_cons_zero, List.set_cons_succ]
    try simp only [List.getElem_toArray, List.getElem_cons_zero, List.getElem_cons_succ]
    refine wpAnyH_take (i := 19) (oi := _) (v := ?va20) rfl (by kernel_rfl) (by kernel_rfl) (by kernel_rfl) (fun _ _ _ h => h) (Or.inl ⟨by rfl, ?hya20⟩) (by assumption) ?resta20
    case hya20 => ((intro W hSw; (try dsimp only at hSw); go_simp; try with_reducible rfl))
    try simp only [Act.put, List.setIfInBounds_toArray, List.set_cons_zero, List.set_cons_succ]
    try simp only [List.getElem_toArray, List.getElem_cons_zero, List.getElem_cons_succ]
    refine wpAnyH_take (i := 20) (oi := _) (v := ?va21) rfl (by kernel_rfl) (by kernel_rfl) (by kernel_rfl) (fun _ _ _ h => h) (Or.inl ⟨by rfl, ?hya21⟩) (by assumption) ?resta21
    case hya21 => ((intro W hSw; (try dsimp only at hSw); go_simp; try with_reducible rfl))
    try simp only [Act.put, List.setIfInBounds_toArray, List.set_cons_zero, List.set_cons_succ]
    try simp only [List.getElem_toArray, List.getElem_cons_zero, List.getElem_cons_succ]
    refine wpAnyH_ready (rs := [21]) (by kernel_rfl) (by simp) ?_
    refine AllReadyH.cons (o := _) rfl (fun K hK => ?_) ?_
    · go_simp
      refine (HA.out _).mono ?_
      rintro e w6 ⟨rfl, hb6⟩
      (try go_wp2_with fail)
      refine hK.out _ _ (by (first | exact ⟨HZ5.out, HC.out⟩ | exact ⟨HZ5.out.drw, HC.out⟩ | exact ⟨HZ5.out.drw.keep hb6, cell_below hb6 HC.out.1, cell_below hb6 HC.out.2.1, cell_below hb6 HC.out.2.2.1, cell_below hb6 HC.out.2.2.2.1, cell_below hb6 HC.out.2.2.2.2.1, cell_below hb6 HC.out.2.2.2.2.2.1, cell_below hb6 HC.out.2.2.2.2.2.2.1, cell_below hb6 HC.out.2.2.2.2.2.2.2.1, cell_below hb6 HC.out.2.2.2.2.2.2.2.2.1, cell_below hb6 HC.out.2.2.2.2.2.2.2.2.2⟩)) (fun _ => ?_)
      clear hK K
      try simp only [Act.put, List.setIfInBounds_toArray, List.set_cons_zero, List.set_cons_succ]
      try simp only [List.getElem_toArray, List.getElem_cons_zero, List.getElem_cons_succ]
      refine wpAnyH_take (i := 22) (oi := _) (v := ?va22) rfl (by kernel_rfl) (by kernel_rfl) (by kernel_rfl) (fun _ _ _ h => h) (Or.inl ⟨by rfl, ?hya22⟩) (by assumption) ?resta22
      case hya22 => ((intro W hSw; (try dsimp only at hSw); go_simp; try with_reducible rfl))
      try simp only [Act.put, List.setIfInBounds_toArray]
      try simp only [List.getElem_toArray, List.getElem_cons_zero, List.getElem_cons_succ]
      refine wpAnyH_take (i := 23) (oi := _) (v := ?va23) rfl (by kernel_rfl) (by kernel_rfl) (by kernel_rfl) (fun _ _ _ h => h) (Or.inl ⟨by rfl, ?hya23⟩) (by assumption) ?resta23
      case hya23 => ((intro W hSw; (try dsimp only at hSw); go_simp; try with_reducible rfl))
      try simp only [Act.put, List.setIfInBounds_toArray, List.set_cons_zero, List.set_cons_succ]
      try simp only [List.getElem_toArray, List.getElem_cons_zero, List.getElem_cons_succ]
      refine wpAnyH_done (by kernel_rfl) ?_ _
      have e6 : Below w5.heap.size w5 w6 := (Below.refl _ _).drew.trans hb6
      have HB6 := Lib.hid (HB5.out.trans (e6.mono HB5.out.size))
      clear e6 hb6
      go_wp2_with fail
      go_ret
      exact ⟨rfl, HB6.out⟩
    exact AllReadyH.nil

  · have HT : Hid (∀ W : World, Calls Tryz.prog 25 #[frV k r s i l d p a t] W fun e w' => e = .returned (.tuple #[.string ⟨#[]⟩, .int .i64 (frE k r s i l d p t)]) ∧ Below W.heap.size W w') := Lib.hid (fun W => by
      have h := HE.out W
      unfold fencR at h
      rw [if_pos h0] at h
      exact h)
    have hne : (frE k r s i l d p t != 0) = true := by simpa using h0
    clear HE h0
    generalize frE k r s i l d p t = E at *
    unfold frV at HT ⊢
    go_enter Tryz.func8, Tryz.ntmps8
    go_upto_region 1 with fail
    generalize w.alloc (.cells #[.int .i64 k, .int .i64 r, .int .i64 s, .int .i64 i, .int .i64 l, .int .i64 d, .int .i64 p, .int .u32 a, .string t] 26) = wz at *
    obtain ⟨c0, c1, c2, c3, c4, c5, c6, c7, c8⟩ := HZ.out
    go_upto_region 2 with (go_at_call 25; refine (HT.out _).mono ?_; rintro e wy ⟨rfl, hby⟩)
    have HBy := Lib.hid (HB.out.trans (hby.mono HB.out.size))
    clear c0 c1 c2 c3 c4 c5 c6 c7 c8 hby HZ HB HT
    go_wp2_with (go_at_call 19; refine (HA.out _).mono ?_; rintro e w3 ⟨rfl, hb3⟩)
    go_ret
    exact ⟨rfl, HBy.out.trans (hb3.mono HBy.out.size)⟩

end Go.Proofs.YtjennpcadjdnlaaGreatDoor.torn
