/-
  WALKS: steleref13.Marshal, Unmarshal.
-/
import Derived.Test.YtbeooijgkbkniaaGreatDoorFrG
import Derived.Test.YtbeooijgkbkniaaGreatDoorFrH
namespace Go.Proofs.YtbeooijgkbkniaaGreatDoor
open Go.RowKit

set_option maxRecDepth 100000 in
set_option maxHeartbeats 8000000 in
theorem rmar_any (w : World) (k r s i l d p a : Int) (t : ByteArray) (ht : t.size ≤ 1000) (ha : 0 ≤ a ∧ a < 4294967296) :
    Calls Tryz.prog 13 #[frV k r s i l d p a t] w fun e w' => e = .returned (marR k r s i l d p a t) ∧ Below w.heap.size w w' := by
  obtain ⟨R, hR⟩ : ∃ R, marR k r s i l d p a t = R := ⟨_, rfl⟩
  rw [hR]
  unfold marR at hR
  have HC := Lib.hid (fun W => rcheck_any W k r s i l d p a t ht)
  obtain ⟨E, hE⟩ : ∃ E, frE k r s i l d p t = E := ⟨_, rfl⟩
  rw [hE] at hR HC
  have HB := Lib.hid ((Below.refl w.heap.size w).alloc (Nat.le_refl _) (.cells #[.int .i64 k, .int .i64 r, .int .i64 s, .int .i64 i, .int .i64 l, .int .i64 d, .int .i64 p, .int .u32 a, .string t] 26))
  by_cases h0 : E = 0
  · subst h0
    obtain ⟨h1, h2, h3, h4, h5, h6, h7, h8⟩ := frE_ok hE
    obtain ⟨k, rfl⟩ : ∃ n : Nat, k = n := ⟨k.toNat, by omega⟩
    obtain ⟨r, rfl⟩ : ∃ n : Nat, r = n := ⟨r.toNat, by omega⟩
    obtain ⟨s, rfl⟩ : ∃ n : Nat, s = n := ⟨s.toNat, by omega⟩
    obtain ⟨i, rfl⟩ : ∃ n : Nat, i = n := ⟨i.toNat, by omega⟩
    obtain ⟨l, rfl⟩ : ∃ n : Nat, l = n := ⟨l.toNat, by omega⟩
    obtain ⟨d, rfl⟩ : ∃ n : Nat, d = n := ⟨d.toNat, by omega⟩
    obtain ⟨p, rfl⟩ : ∃ n : Nat, p = n := ⟨p.toNat, by omega⟩
    obtain ⟨a, rfl⟩ : ∃ n : Nat, a = n := ⟨a.toNat, by omega⟩
    have HR : Hid (Value.tuple #[.string (strB (marL k r s i l d p a t)), .int .i64 0] = R) := Lib.hid (by rw [← hR, if_neg (by simp)]; simp)
    have HH : Hid (∀ W : World, Calls Tryz.prog 31 #[frV k r s i l d p a t] W fun e w' => e = .returned (.string (strB (hdrL k r s i l d p a))) ∧ Below W.heap.size W w') := Lib.hid (fun W => rheader_any W k r s i l d p a t (by omega) (by omega) (by omega) (by omega) (by omega) (by omega) (by omega))
    have hm : strB (hdrL k r s i l d p a) ++ t = strB (msgL k r s i l d p a t) := by rw [← hdr_msg k r s i l d p a t (by omega) (by omega) (by omega) (by omega) (by omega) (by omega) (by omega), ← strB_cat, strB_bs]
    have HMS := Lib.hid hm
    have zh : (strB (hdrL k r s i l d p a)).size = 12 := by rw [strB_size]; rfl
    have zt := h8
    have hap : ∀ x y : ByteArray, (x ++ y).size = x.size + y.size := fun x y => ByteArray.size_append
    have zb : ∀ n, (strB (be4 n)).size = 4 := fun n => by rw [strB_size]; rfl
    have hz : (strB (msgL k r s i l d p a t)).size = 40 := by rw [← hm, hap, zh, zt]
    have HM : Hid (strB (marL k r s i l d p a t) = strB (msgL k r s i l d p a t) ++ strB (be4 (sumL [strB (msgL k r s i l d p a t)]))) := Lib.hid (by rw [strB_cat]; rfl)
    unfold frV at HC HH ⊢
    have HZ := Lib.hid (Box9.blk (Blk.new w 26 [.int .i64 k, .int .i64 r, .int .i64 s, .int .i64 i, .int .i64 l, .int .i64 d, .int .i64 p, .int .u32 a, .string t]))
    change Hid (Box9 (w.alloc (.cells #[.int .i64 k, .int .i64 r, .int .i64 s, .int .i64 i, .int .i64 l, .int .i64 d, .int .i64 p, .int .u32 a, .string t] 26)) _ _ _ _ _ _ _ _ _ _) at HZ
    clear h1 h2 h3 h4 h5 h6 h7 h8 hE hR ht ha hm
    go_enter Tryz.func13, Tryz.ntmps13
    go_upto_region 1 with fail
    generalize w.alloc (.cells #[.int .i64 k, .int .i64 r, .int .i64 s, .int .i64 i, .int .i64 l, .int .i64 d, .int .i64 p, .int .u32 a, .string t] 26) = wz at *
    obtain ⟨c0, c1, c2, c3, c4, c5, c6, c7, c8⟩ := HZ.out
    go_upto_region 4 with (go_at_call 17; refine (HC.out _).mono ?_; rintro e wy ⟨rfl, hby⟩)
    have HZy := Lib.hid (HZ.out.keep hby)
    have HBy := Lib.hid (HB.out.trans (hby.mono HB.out.size))
    clear c0 c1 c2 c3 c4 c5 c6 c7 c8 hby HZ HB HC
    go_cut [5] (fun s5 wx => s5 = .string (strB (msgL k r s i l d p a t)) ∧ Below wy.heap.size wy wx)
    case first =>
      refine wp_region_held_drew (S := (fun w' => Box9 w' w.heap.size (.int .i64 k) (.int .i64 r) (.int .i64 s) (.int .i64 i) (.int .i64 l) (.int .i64 d) (.int .i64 p) (.int .u32 a) (.string t))) (by kernel_rfl) ?_ (fun hHeld => ?_)
      · (repeat' (first | with_reducible exact HZy.out | with_reducible refine Box9.drw ?_ | with_reducible refine Box9.keep ?_ hb3))
      refine wpAnyH_take (i := 0) (oi := _) (v := ?va1) rfl (by kernel_rfl) (by kernel_rfl) (by kernel_rfl) (fun _ _ _ h => h) (Or.inl ⟨by rfl, ?hya1⟩) (by assumption) ?resta1
      case hya1 => ((intro W hSw; (try dsimp only at hSw); go_simp; try with_reducible rfl))
      try simp only [Act.put, List.setIfInBounds_toArray]
      try simp only [List.getElem_toArray, List.getElem_cons_zero]
      refine wpAnyH_take (i := 2) (oi := _) (v := ?va2) rfl (by kernel_rfl) (by kernel_rfl) (by kernel_rfl) (fun _ _ _ h => h) (Or.inl ⟨by rfl, ?hya2⟩) (by assumption) ?resta2
      case hya2 => ((intro W hSw; (try dsimp only at hSw); go_simp; try with_reducible rfl))
      try simp only [Act.put, List.setIfInBounds_toArray, List.set_cons_zero, List.set_cons_succ]
      try simp only [List.getElem_toArray, List.getElem_cons_zero, List.getElem_cons_succ]
      refine wpAnyH_take (i := 3) (oi := _) (v := ?va3) rfl (by kernel_rfl) (by kernel_rfl) (by kernel_rfl) (fun _ _ _ h => h) (Or.inl ⟨by rfl, ?hya3⟩) (by assumption) ?resta3
      case hya3 => ((intro W hSw; (try dsimp only at hSw); go_simp; try with_reducible rfl))
      try simp only [Act.put, List.setIfInBounds_toArray, List.set_cons_zero, List.set_cons_succ]
      try simp only [List.getElem_toArray, List.getElem_cons_zero, List.getElem_cons_succ]
      refine wpAnyH_ready (rs := [1]) (by kernel_rfl) (by simp) ?_
      refine AllReadyH.cons (o := _) rfl (fun K hK => ?_) ?_
      · go_simp
        refine (HH.out _).mono ?_
        rintro e w3 ⟨rfl, hb3⟩
        (try go_wp2_with fail)
        refine hK.out _ _ (by (repeat' (first | with_reducible exact HZy.out | with_reducible refine Box9.drw ?_ | with_reducible refine Box9.keep ?_ hb3))) (fun _ => ?_)
        clear hK K
        try simp only [Act.put, List.setIfInBounds_toArray, List.set_cons_zero, List.set_cons_succ]
        try simp only [List.getElem_toArray, List.getElem_cons_zero, List.getElem_cons_succ]
        refine wpAnyH_take (i := 4) (oi := _) (v := ?va4) rfl (by kernel_rfl) (by kernel_rfl) (by kernel_rfl) (fun _ _ _ h => h) (Or.inl ⟨by rfl, ?hya4⟩) (by assumption) ?resta4
        case hya4 => ((intro W hSw; (try dsimp only at hSw); go_simp; try with_reducible rfl))
        try simp only [Act.put, List.setIfInBounds_toArray]
        try simp only [List.getElem_toArray, List.getElem_cons_zero, List.getElem_cons_succ]
        refine wpAnyH_take (i := 5) (oi := _) (v := ?va5) rfl (by kernel_rfl) (by kernel_rfl) (by kernel_rfl) (fun _ _ _ h => h) (Or.inl ⟨by rfl, ?hya5⟩) (by assumption) ?resta5
        case hya5 => ((intro W hSw; (try dsimp only at hSw); go_simp; try with_reducible rfl))
        try simp only [Act.put, List.setIfInBounds_toArray, List.set_cons_zero, List.set_cons_succ]
        try simp only [List.getElem_toArray, List.getElem_cons_zero, List.getElem_cons_succ]
        refine wpAnyH_done (by kernel_rfl) ?_ _
        have eB : Below wy.heap.size wy w3 := (Below.refl _ _).drew.trans hb3
        clear hb3
        go_wp2_with fail
        go_meet
        exact ⟨by rw [HMS.out], eB⟩
      exact AllReadyH.nil

    case rest =>
      obtain ⟨rfl, eB⟩ := hcut
      have HBd := Lib.hid (HBy.out.trans (eB.mono HBy.out.size))
      clear eB HZy HBy HH HMS zh
      have HR' := HR.out
      rw [HM.out] at HR'
      have HR2 := Lib.hid HR'
      clear HR HM HR'
      generalize strB (msgL k r s i l d p a t) = M at *
      have HX : Hid (∀ W : World, Calls Tryz.prog 33 #[.slice (some ⟨W.heap.size, 0, none⟩) 1 1] (W.alloc (.cells #[.string M] 9)) fun e w' => e = .returned (.int .u32 (sumL [M] : Nat)) ∧ W.alloc (.cells #[.string M] 9) = w') := Lib.hid (fun W =>
        rsum_any _ _ [M] (Blk.slAt (f := strV) (xs := [M]) (Blk.new W 9 [.string M]) (c := 1) (by simp) (by omega)) (by intro x hx; rw [List.mem_singleton.1 hx]; omega) (by simp))
      have HY : Hid (∀ W : World, Calls Tryz.prog 32 #[.int .u32 (sumL [M] : Nat)] W fun e w' => e = .returned (.string (strB (be4 (sumL [M])))) ∧ Below W.heap.size W w') := Lib.hid (fun W => rbytes_any W _ (sumL_lt _))
      go_wp2_with (first | (go_at_call 33; refine (HX.out _).mono ?_; rintro e w5 ⟨rfl, rfl⟩) | (go_at_call 32; refine (HY.out _).mono ?_; rintro e w6 ⟨rfl, hb6⟩))
      rw [← HR2.out]
      exact bodyPost_ret (v := .tuple #[.string (M ++ strB (be4 (sumL [M]))), .int .i64 0]) (by simp [results, Tryz.results13, go_sem]) rfl ⟨rfl, HBd.out.trans ((((Below.refl _ _).alloc (Nat.le_refl _) _).trans (hb6.mono (by simp))).mono HBd.out.size)⟩
  · have HR : Hid (Value.tuple #[.string ⟨#[]⟩, .int .i64 E] = R) := Lib.hid (by rw [← hR, if_pos h0])
    have h1 : (E != 0) = true := by simpa using h0
    clear hR hE
    unfold frV at HC ⊢
    go_enter Tryz.func13, Tryz.ntmps13
    go_wp2_with (go_at_call 17; refine (HC.out _).mono ?_; rintro e wy ⟨rfl, hby⟩)
    rw [← HR.out]
    exact bodyPost_ret (v := .tuple #[.string ⟨#[]⟩, .int .i64 E]) (by simp [results, Tryz.results13, go_sem]) rfl ⟨rfl, HB.out.trans (hby.mono HB.out.size)⟩

end Go.Proofs.YtbeooijgkbkniaaGreatDoor
