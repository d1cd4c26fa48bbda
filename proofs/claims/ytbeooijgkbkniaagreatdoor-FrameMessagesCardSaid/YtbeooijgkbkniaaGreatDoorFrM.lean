/-
  WALK: stelelaw13.FrameMessages.
-/
import Derived.Test.YtbeooijgkbkniaaGreatDoorFrJ
import Derived.Test.YtbeooijgkbkniaaGreatDoorFrL
namespace Go.Proofs.YtbeooijgkbkniaaGreatDoor
open Go.RowKit

theorem mar_parts (k r s i l d p a : Int) (t : ByteArray) : ∃ (X : ByteArray) (e : Int), marR k r s i l d p a t = .tuple #[.string X, .int .i64 e] := by
  unfold marR
  split
  · exact ⟨_, _, rfl⟩
  · exact ⟨_, _, rfl⟩
theorem unm_parts (b : ByteArray) : ∃ (k r q i l d p a : Int) (t : ByteArray) (C : Int), unmR b = .tuple #[frV k r q i l d p a t, .int .i64 C] := by
  obtain ⟨k, r, q, i, l, d, p, a, t, h⟩ := frame_parts b
  exact ⟨k, r, q, i, l, d, p, a, t, _, by rw [unmR_eq, h]⟩

namespace messages
set_option maxRecDepth 100000 in
set_option maxHeartbeats 16000000 in
theorem walk (w : World) (k r s i l d p a : Int) (t b : ByteArray) (ha : 0 ≤ a ∧ a < 4294967296) :
    Calls Tryz.prog 3 #[frV k r s i l d p a t, .string b] w fun e w' => e = .returned (.bool true) ∧ Below w.heap.size w w' := by
  have HAl := Lib.hid alive_any
  have HTl := Lib.hid (fun W => tooLong_any W k r s i l d p a t)
  have HB := Lib.hid ((Below.refl w.heap.size w).alloc (Nat.le_refl _) (.cells #[.int .i64 k, .int .i64 r, .int .i64 s, .int .i64 i, .int .i64 l, .int .i64 d, .int .i64 p, .int .u32 a, .string t] 26))
  have HZ := Lib.hid (Box9.blk (Blk.new w 26 [.int .i64 k, .int .i64 r, .int .i64 s, .int .i64 i, .int .i64 l, .int .i64 d, .int .i64 p, .int .u32 a, .string t]))
  change Hid (Box9 (w.alloc (.cells #[.int .i64 k, .int .i64 r, .int .i64 s, .int .i64 i, .int .i64 l, .int .i64 d, .int .i64 p, .int .u32 a, .string t] 26)) _ _ _ _ _ _ _ _ _ _) at HZ
  have HM := Lib.hid (fun (h : t.size ≤ 1000) W => fmar_any W k r s i l d p a t h ha)
  have HN := Lib.hid (fun (h : t.size ≤ 1000) W => rmar_any W k r s i l d p a t h ha)
  have HC := Lib.hid (fun (h : t.size ≤ 1000) W => fcheck_any W k r s i l d p a t h)
  have HD := Lib.hid (fun (h : t.size ≤ 1000) W => rcheck_any W k r s i l d p a t h)
  have HU := Lib.hid (fun (h : b.size ≤ 1000) W => funm_any W b h)
  have HV := Lib.hid (fun (h : b.size ≤ 1000) W => runm_any W b h)
  obtain ⟨X, E, hmar⟩ := mar_parts k r s i l d p a t
  obtain ⟨k2, r2, q2, i2, l2, d2, p2, a2, t2, C, hunm⟩ := unm_parts b
  obtain ⟨F, hF⟩ : ∃ F, frE k r s i l d p t = F := ⟨_, rfl⟩
  rw [hmar] at HM HN
  rw [hunm] at HU HV
  rw [hF] at HC HD
  clear hmar hunm hF ha
  unfold frV at HTl HM HN HC HD HU HV ⊢
  obtain ⟨big, hbig⟩ : ∃ x, decide (200 < t.size) = x := ⟨_, rfl⟩
  rw [hbig] at HTl
  go_enter Tryz.func3, Tryz.ntmps3
  go_upto_region 1 with fail
  generalize w.alloc (.cells #[.int .i64 k, .int .i64 r, .int .i64 s, .int .i64 i, .int .i64 l, .int .i64 d, .int .i64 p, .int .u32 a, .string t] 26) = w0 at *
  go_upto_region 3 with (go_at_call 10; refine (HAl.out _).mono ?_; rintro e w1 ⟨rfl, hb1⟩)
  have HZ1 := Lib.hid (HZ.out.keep hb1)
  have HB1 := Lib.hid (HB.out.trans (hb1.mono HB.out.size))
  clear hb1 HZ HB HAl
  obtain ⟨c0, c1, c2, c3, c4, c5, c6, c7, c8⟩ := HZ1.out
  cases big with
  | true =>
    clear hbig
    go_wp2_with (go_at_call 11; refine (HTl.out _).mono ?_; rintro e w2 ⟨rfl, hb2⟩)
    go_ret
    exact ⟨rfl, HB1.out.trans (hb2.mono HB1.out.size)⟩
  | false =>
    have ht : t.size ≤ 200 := by have := of_decide_eq_false hbig; omega
    clear hbig
    by_cases hb : 200 < b.size
    · have hbI : decide ((200 : Int) < b.size) = true := decide_eq_true (by omega)
      clear hb
      go_wp2_with (go_at_call 11; refine (HTl.out _).mono ?_; rintro e w2 ⟨rfl, hb2⟩)
      go_ret
      exact ⟨rfl, HB1.out.trans (hb2.mono HB1.out.size)⟩
    · have hbI : decide ((200 : Int) < b.size) = false := decide_eq_false (by omega)
      have HM := Lib.hid (HM.out (by omega))
      have HN := Lib.hid (HN.out (by omega))
      have HC := Lib.hid (HC.out (by omega))
      have HD := Lib.hid (HD.out (by omega))
      have HU := Lib.hid (HU.out (by omega))
      have HV := Lib.hid (HV.out (by omega))
      clear hb ht
      go_upto_region 5 with (go_at_call 11; refine (HTl.out _).mono ?_; rintro e w2 ⟨rfl, hb2⟩)
      have HZ2 := Lib.hid (HZ1.out.keep hb2)
      have HB2 := Lib.hid (HB1.out.trans (hb2.mono HB1.out.size))
      clear hb2 HZ1 HB1 HTl c0 c1 c2 c3 c4 c5 c6 c7 c8 hbI
      obtain ⟨c0, c1, c2, c3, c4, c5, c6, c7, c8⟩ := HZ2.out
      go_upto_region 6 with (go_at_call 12; refine (HM.out _).mono ?_; rintro e w3 ⟨rfl, hb3⟩)
      have HZ3 := Lib.hid (HZ2.out.keep hb3)
      have HB3 := Lib.hid (HB2.out.trans (hb3.mono HB2.out.size))
      clear hb3 HZ2 HB2 HM c0 c1 c2 c3 c4 c5 c6 c7 c8
      obtain ⟨c0, c1, c2, c3, c4, c5, c6, c7, c8⟩ := HZ3.out
      go_upto_region 7 with (go_at_call 13; refine (HN.out _).mono ?_; rintro e w4 ⟨rfl, hb4⟩)
      have HZ4 := Lib.hid (HZ3.out.keep hb4)
      have HB4 := Lib.hid (HB3.out.trans (hb4.mono HB3.out.size))
      clear hb4 HZ3 HB3 HN c0 c1 c2 c3 c4 c5 c6 c7 c8
      go_upto_region 8 with (go_at_call 14; refine (HU.out _).mono ?_; rintro e w5 ⟨rfl, hb5⟩)
      have hA : Below w5.heap.size w5 (w5.alloc (.cells #[.int .i64 k2, .int .i64 r2, .int .i64 q2, .int .i64 i2, .int .i64 l2, .int .i64 d2, .int .i64 p2, .int .u32 a2, .string t2] 26)) := (Below.refl _ _).alloc (Nat.le_refl _) _
      have HU5 := Lib.hid (Box9.blk (Blk.new w5 26 [.int .i64 k2, .int .i64 r2, .int .i64 q2, .int .i64 i2, .int .i64 l2, .int .i64 d2, .int .i64 p2, .int .u32 a2, .string t2]))
      change Hid (Box9 (w5.alloc (.cells #[.int .i64 k2, .int .i64 r2, .int .i64 q2, .int .i64 i2, .int .i64 l2, .int .i64 d2, .int .i64 p2, .int .u32 a2, .string t2] 26)) _ _ _ _ _ _ _ _ _ _) at HU5
      have HZ5 := Lib.hid (HZ4.out.keep (hb5.trans (hA.mono hb5.size)))
      have HB5 := Lib.hid (HB4.out.trans ((hb5.trans (hA.mono hb5.size)).mono HB4.out.size))
      clear hb5 hA HZ4 HB4 HU
      generalize w5.alloc (.cells #[.int .i64 k2, .int .i64 r2, .int .i64 q2, .int .i64 i2, .int .i64 l2, .int .i64 d2, .int .i64 p2, .int .u32 a2, .string t2] 26) = v5 at *
      generalize w5.heap.size = g5 at *
      go_upto_region 9 with (go_at_call 15; refine (HV.out _).mono ?_; rintro e w6 ⟨rfl, hb6⟩)
      have hA : Below w6.heap.size w6 (w6.alloc (.cells #[.int .i64 k2, .int .i64 r2, .int .i64 q2, .int .i64 i2, .int .i64 l2, .int .i64 d2, .int .i64 p2, .int .u32 a2, .string t2] 26)) := (Below.refl _ _).alloc (Nat.le_refl _) _
      have HV6 := Lib.hid (Box9.blk (Blk.new w6 26 [.int .i64 k2, .int .i64 r2, .int .i64 q2, .int .i64 i2, .int .i64 l2, .int .i64 d2, .int .i64 p2, .int .u32 a2, .string t2]))
      change Hid (Box9 (w6.alloc (.cells #[.int .i64 k2, .int .i64 r2, .int .i64 q2, .int .i64 i2, .int .i64 l2, .int .i64 d2, .int .i64 p2, .int .u32 a2, .string t2] 26)) _ _ _ _ _ _ _ _ _ _) at HV6
      have hE := hb6.trans (hA.mono hb6.size)
      have HU6 := Lib.hid (HU5.out.keep hE)
      have HZ6 := Lib.hid (HZ5.out.keep hE)
      have HB6 := Lib.hid (HB5.out.trans (hE.mono HB5.out.size))
      clear hb6 hA hE HZ5 HB5 HU5 HV
      generalize w6.alloc (.cells #[.int .i64 k2, .int .i64 r2, .int .i64 q2, .int .i64 i2, .int .i64 l2, .int .i64 d2, .int .i64 p2, .int .u32 a2, .string t2] 26) = v6 at *
      generalize w6.heap.size = g6 at *
      go_cut [4] (fun s4 wx => s4 = .bool true ∧ Below v6.heap.size v6 wx)
      case first =>
        refine wp_region_held_drew (S := (fun w' => Box9 w' w.heap.size (.int .i64 k) (.int .i64 r) (.int .i64 s) (.int .i64 i) (.int .i64 l) (.int .i64 d) (.int .i64 p) (.int .u32 a) (.string t) ∧ Box9 w' g5 (.int .i64 k2) (.int .i64 r2) (.int .i64 q2) (.int .i64 i2) (.int .i64 l2) (.int .i64 d2) (.int .i64 p2) (.int .u32 a2) (.string t2) ∧ Box9 w' g6 (.int .i64 k2) (.int .i64 r2) (.int .i64 q2) (.int .i64 i2) (.int .i64 l2) (.int .i64 d2) (.int .i64 p2) (.int .u32 a2) (.string t2))) (by kernel_rfl) ?_ (fun hHeld => ?_)
        · (exact ⟨by (repeat' (first | with_reducible exact HZ6.out | with_reducible refine Box9.drw ?_ | with_reducible refine Box9.keep ?_ hc1 | with_reducible refine Box9.keep ?_ hc2)), by (repeat' (first | with_reducible exact HU6.out | with_reducible refine Box9.drw ?_ | with_reducible refine Box9.keep ?_ hc1 | with_reducible refine Box9.keep ?_ hc2)), by (repeat' (first | with_reducible exact HV6.out | with_reducible refine Box9.drw ?_ | with_reducible refine Box9.keep ?_ hc1 | with_reducible refine Box9.keep ?_ hc2))⟩)
        refine wpAnyH_take (i := 0) (oi := _) (v := ?va1) rfl (by kernel_rfl) (by kernel_rfl) (by kernel_rfl) (fun _ _ _ h => h) (Or.inl ⟨by rfl, ?hya1⟩) (by assumption) ?resta1
        case hya1 => ((intro W hSw; (try dsimp only at hSw); go_simp; try with_reducible rfl))
        try simp only [Act.put, List.setIfInBounds_toArray, List.set_cons_zero, List.set_cons_succ]
        try simp only [List.getElem_toArray, List.getElem_cons_zero, List.getElem_cons_succ]
        refine wpAnyH_take (i := 2) (oi := _) (v := ?va2) rfl (by kernel_rfl) (by kernel_rfl) (by kernel_rfl) (fun _ _ _ h => h) (Or.inl ⟨by rfl, ?hya2⟩) (by assumption) ?resta2
        case hya2 => ((intro W hSw; (try dsimp only at hSw); go_simp; try with_reducible rfl))
        try simp only [Act.put, List.setIfInBounds_toArray, List.set_cons_zero, List.set_cons_succ]
        try simp only [List.getElem_toArray, List.getElem_cons_zero, List.getElem_cons_succ]
        refine wpAnyH_ready (rs := [1]) (by kernel_rfl) (by simp) ?_
        refine AllReadyH.cons (o := _) rfl (fun K hK => ?_) ?_
        · go_simp
          refine (HC.out _).mono ?_
          rintro e v7 ⟨rfl, hc1⟩
          (try go_wp2_with fail)
          refine hK.out _ _ (by (exact ⟨by (repeat' (first | with_reducible exact HZ6.out | with_reducible refine Box9.drw ?_ | with_reducible refine Box9.keep ?_ hc1 | with_reducible refine Box9.keep ?_ hc2)), by (repeat' (first | with_reducible exact HU6.out | with_reducible refine Box9.drw ?_ | with_reducible refine Box9.keep ?_ hc1 | with_reducible refine Box9.keep ?_ hc2)), by (repeat' (first | with_reducible exact HV6.out | with_reducible refine Box9.drw ?_ | with_reducible refine Box9.keep ?_ hc1 | with_reducible refine Box9.keep ?_ hc2))⟩)) (fun _ => ?_)
          clear hK K
          try simp only [Act.put, List.setIfInBounds_toArray, List.set_cons_zero, List.set_cons_succ]
          try simp only [List.getElem_toArray, List.getElem_cons_zero, List.getElem_cons_succ]
          refine wpAnyH_ready (rs := [3]) (by kernel_rfl) (by simp) ?_
          refine AllReadyH.cons (o := _) rfl (fun K hK => ?_) ?_
          · go_simp
            refine (HD.out _).mono ?_
            rintro e v8 ⟨rfl, hc2⟩
            (try go_wp2_with fail)
            refine hK.out _ _ (by (exact ⟨by (repeat' (first | with_reducible exact HZ6.out | with_reducible refine Box9.drw ?_ | with_reducible refine Box9.keep ?_ hc1 | with_reducible refine Box9.keep ?_ hc2)), by (repeat' (first | with_reducible exact HU6.out | with_reducible refine Box9.drw ?_ | with_reducible refine Box9.keep ?_ hc1 | with_reducible refine Box9.keep ?_ hc2)), by (repeat' (first | with_reducible exact HV6.out | with_reducible refine Box9.drw ?_ | with_reducible refine Box9.keep ?_ hc1 | with_reducible refine Box9.keep ?_ hc2))⟩)) (fun _ => ?_)
            clear hK K
            try simp only [Act.put, List.setIfInBounds_toArray, List.set_cons_zero, List.set_cons_succ]
            try simp only [List.getElem_toArray, List.getElem_cons_zero, List.getElem_cons_succ]
            refine wpAnyH_take (i := 4) (oi := _) (v := ?va3) rfl (by kernel_rfl) (by kernel_rfl) (by kernel_rfl) (fun _ _ _ h => h) (Or.inl ⟨by rfl, ?hya3⟩) (by assumption) ?resta3
            case hya3 => ((intro W hSw; (try dsimp only at hSw); go_simp; try with_reducible rfl))
            try simp only [Act.put, List.setIfInBounds_toArray, List.set_cons_zero, List.set_cons_succ]
            try simp only [List.getElem_toArray, List.getElem_cons_zero, List.getElem_cons_succ]
            refine wpAnyH_take (i := 5) (oi := _) (v := ?va4) rfl (by kernel_rfl) (by kernel_rfl) (by kernel_rfl) (fun _ _ _ h => h) (Or.inl ⟨by rfl, ?hya4⟩) (by assumption) ?resta4
            case hya4 => ((intro W hSw; (try dsimp only at hSw); go_simp; try with_reducible rfl))
            try simp only [Act.put, List.setIfInBounds_toArray, List.set_cons_zero, List.set_cons_succ]
            try simp only [List.getElem_toArray, List.getElem_cons_zero, List.getElem_cons_succ]
            refine wpAnyH_take (i := 6) (oi := _) (v := ?va5) rfl (by kernel_rfl) (by kernel_rfl) (by kernel_rfl) (fun _ _ _ h => h) (Or.inl ⟨by rfl, ?hya5⟩) (by assumption) ?resta5
            case hya5 => ((intro W hSw; (try dsimp only at hSw); go_simp; try with_reducible rfl))
            try simp only [Act.put, List.setIfInBounds_toArray, List.set_cons_zero, List.set_cons_succ]
            try simp only [List.getElem_toArray, List.getElem_cons_zero, List.getElem_cons_succ]
            refine wpAnyH_take (i := 7) (oi := _) (v := ?va6) rfl (by kernel_rfl) (by kernel_rfl) (by kernel_rfl) (fun _ _ _ h => h) (Or.inl ⟨by rfl, ?hya6⟩) (by assumption) ?resta6
            case hya6 => ((intro W hSw; (try dsimp only at hSw); go_simp; try with_reducible rfl))
            try simp only [Act.put, List.setIfInBounds_toArray, List.set_cons_zero, List.set_cons_succ]
            try simp only [List.getElem_toArray, List.getElem_cons_zero, List.getElem_cons_succ]
            refine wpAnyH_take (i := 8) (oi := _) (v := ?va7) rfl (by kernel_rfl) (by kernel_rfl) (by kernel_rfl) (fun _ _ _ h => h) (Or.inl ⟨by rfl, ?hya7⟩) (by assumption) ?resta7
            case hya7 => ((intro W hSw; (try dsimp only at hSw); go_simp; try with_reducible rfl))
            try simp only [Act.put, List.setIfInBounds_toArray, List.set_cons_zero, List.set_cons_succ]
            try simp only [List.getElem_toArray, List.getElem_cons_zero, List.getElem_cons_succ]
            refine wpAnyH_take (i := 9) (oi := _) (v := ?va8) rfl (by kernel_rfl) (by kernel_rfl) (by kernel_rfl) (fun _ _ _ h => h) (Or.inl ⟨by rfl, ?hya8⟩) (by assumption) ?resta8
            case hya8 => ((intro W hSw; (try dsimp only at hSw); go_simp; try with_reducible rfl))
            try simp only [Act.put, List.setIfInBounds_toArray, List.set_cons_zero, List.set_cons_succ]
            try simp only [List.getElem_toArray, List.getElem_cons_zero, List.getElem_cons_succ]
            refine wpAnyH_take (i := 10) (oi := _) (v := ?va9) rfl (by kernel_rfl) (by kernel_rfl) (by kernel_rfl) (fun _ _ _ h => h) (Or.inl ⟨by rfl, ?hya9⟩) (by assumption) ?resta9
            case hya9 => ((intro W hSw; (try dsimp only at hSw); go_simp; try with_reducible rfl))
            try simp only [Act.put, List.setIfInBounds_toArray, List.set_cons_zero, List.set_cons_succ]
            try simp only [List.getElem_toArray, List.getElem_cons_zero, List.getElem_cons_succ]
            refine wpAnyH_take (i := 11) (oi := _) (v := ?va10) rfl (by kernel_rfl) (by kernel_rfl) (by kernel_rfl) (fun _ _ _ h => h) (Or.inl ⟨by rfl, ?hya10⟩) (by assumption) ?resta10
            case hya10 => ((intro W hSw; (try dsimp only at hSw); go_simp; try with_reducible rfl))
            try simp only [Act.put, List.setIfInBounds_toArray, List.set_cons_zero, List.set_cons_succ]
            try simp only [List.getElem_toArray, List.getElem_cons_zero, List.getElem_cons_succ]
            refine wpAnyH_take (i := 12) (oi := _) (v := ?va11) rfl (by kernel_rfl) (by kernel_rfl) (by kernel_rfl) (fun _ _ _ h => h) (Or.inl ⟨by rfl, ?hya11⟩) (by assumption) ?resta11
            case hya11 => ((intro W hSw; (try dsimp only at hSw); go_simp; try with_reducible rfl))
            try simp only [Act.put, List.setIfInBounds_toArray, List.set_cons_zero, List.set_cons_succ]
            try simp only [List.getElem_toArray, List.getElem_cons_zero, List.getElem_cons_succ]
            refine wpAnyH_take (i := 13) (oi := _) (v := ?va12) rfl (by kernel_rfl) (by kernel_rfl) (by kernel_rfl) (fun _ _ _ h => h) (Or.inl ⟨by rfl, ?hya12⟩) (by assumption) ?resta12
            case hya12 => ((intro W hSw; (try dsimp only at hSw); go_simp; try with_reducible rfl))
            try simp only [Act.put, List.setIfInBounds_toArray, List.set_cons_zero, List.set_cons_succ]
            try simp only [List.getElem_toArray, List.getElem_cons_zero, List.getElem_cons_succ]
            refine wpAnyH_take (i := 14) (oi := _) (v := ?va13) rfl (by kernel_rfl) (by kernel_rfl) (by kernel_rfl) (fun _ _ _ h => h) (Or.inl ⟨by rfl, ?hya13⟩) (by assumption) ?resta13
            case hya13 => ((intro W hSw; (try dsimp only at hSw); go_simp; try with_reducible rfl))
            try simp only [Act.put, List.setIfInBounds_toArray, List.set_cons_zero, List.set_cons_succ]
            try simp only [List.getElem_toArray, List.getElem_cons_zero, List.getElem_cons_succ]
            refine wpAnyH_take (i := 15) (oi := _) (v := ?va14) rfl (by kernel_rfl) (by kernel_rfl) (by kernel_rfl) (fun _ _ _ h => h) (Or.inl ⟨by rfl, ?hya14⟩) (by assumption) ?resta14
            case hya14 => ((intro W hSw; (try dsimp only at hSw); go_simp; try with_reducible rfl))
            try simp only [Act.put, List.setIfInBounds_toArray, List.set_cons_zero, List.set_cons_succ]
            try simp only [List.getElem_toArray, List.getElem_cons_zero, List.getElem_cons_succ]
            refine wpAnyH_take (i := 16) (oi := _) (v := ?va15) rfl (by kernel_rfl) (by kernel_rfl) (by kernel_rfl) (fun _ _ _ h => h) (Or.inl ⟨by rfl, ?hya15⟩) (by assumption) ?resta15
            case hya15 => ((intro W hSw; (try dsimp only at hSw); go_simp; try with_reducible rfl))
            try simp only [Act.put, List.setIfInBounds_toArray, List.set_cons_zero, List.set_cons_succ]
            try simp only [List.getElem_toArray, List.getElem_cons_zero, List.getElem_cons_succ]
            refine wpAnyH_take (i := 17) (oi := _) (v := ?va16) rfl (by kernel_rfl) (by kernel_rfl) (by kernel_rfl) (fun _ _ _ h => h) (Or.inl ⟨by rfl, ?hya16⟩) (by assumption) ?resta16
            case hya16 => ((intro W hSw; (try dsimp only at hSw); go_simp; try with_reducible rfl))
            try simp only [Act.put, List.setIfInBounds_toArray, List.set_cons_zero, List.set_cons_succ]
            try simp only [List.getElem_toArray, List.getElem_cons_zero, List.getElem_cons_succ]
            refine wpAnyH_take (i := 18) (oi := _) (v := ?va17) rfl (by kernel_rfl) (by kernel_rfl) (by kernel_rfl) (fun _ _ _ h => h) (Or.inl ⟨by rfl, ?hya17⟩) (by assumption) ?resta17
            case hya17 => ((intro W hSw; (try dsimp only at hSw); go_simp; try with_reducible rfl))
            try simp only [Act.put, List.setIfInBounds_toArray, List.set_cons_zero, List.set_cons_succ]
            try simp only [List.getElem_toArray, List.getElem_cons_zero, List.getElem_cons_succ]
            refine wpAnyH_take (i := 19) (oi := _) (v := ?va18) rfl (by kernel_rfl) (by kernel_rfl) (by kernel_rfl) (fun _ _ _ h => h) (Or.inl ⟨by rfl, ?hya18⟩) (by assumption) ?resta18
            case hya18 => ((intro W hSw; (try dsimp only at hSw); go_simp; try with_reducible rfl))
            try simp only [Act.put, List.setIfInBounds_toArray, List.set_cons_zero, List.set_cons_succ]
            try simp only [List.getElem_toArray, List.getElem_cons_zero, List.getElem_cons_succ]
            refine wpAnyH_take (i := 20) (oi := _) (v := ?va19) rfl (by kernel_rfl) (by kernel_rfl) (by kernel_rfl) (fun _ _ _ h => h) (Or.inl ⟨by rfl, ?hya19⟩) (by assumption) ?resta19
            case hya19 => ((intro W hSw; (try dsimp only at hSw); go_simp; try with_reducible rfl))
            try simp only [Act.put, List.setIfInBounds_toArray, List.set_cons_zero, List.set_cons_succ]
            try simp only [List.getElem_toArray, List.getElem_cons_zero, List.getElem_cons_succ]
            refine wpAnyH_take (i := 21) (oi := _) (v := ?va20) rfl (by kernel_rfl) (by kernel_rfl) (by kernel_rfl) (fun _ _ _ h => h) (Or.inl ⟨by rfl, ?hya20⟩) (by assumption) ?resta20
            case hya20 => ((intro W hSw; (try dsimp only at hSw); go_simp; try with_reducible rfl))
            try simp only [Act.put, List.setIfInBounds_toArray, List.set_cons_zero, List.set_cons_succ]
            try simp only [List.getElem_toArray, List.getElem_cons_zero, List.getElem_cons_succ]
            refine wpAnyH_take (i := 22) (oi := _) (v := ?va21) rfl (by kernel_rfl) (by kernel_rfl) (by kernel_rfl) (fun _ _ _ h => h) (Or.inl ⟨by rfl, ?hya21⟩) (by assumption) ?resta21
            case hya21 => ((intro W hSw; (try dsimp only at hSw); go_simp; try with_reducible rfl))
            try simp only [Act.put, List.setIfInBounds_toArray, List.set_cons_zero, List.set_cons_succ]
            try simp only [List.getElem_toArray, List.getElem_cons_zero, List.getElem_cons_succ]
            refine wpAnyH_take (i := 23) (oi := _) (v := ?va22) rfl (by kernel_rfl) (by kernel_rfl) (by kernel_rfl) (fun _ _ _ h => h) (Or.inl ⟨by rfl, ?hya22⟩) (by assumption) ?resta22
            case hya22 => ((intro W hSw; (try dsimp only at hSw); go_simp; try with_reducible rfl))
            try simp only [Act.put, List.setIfInBounds_toArray, List.set_cons_zero, List.set_cons_succ]
            try simp only [List.getElem_toArray, List.getElem_cons_zero, List.getElem_cons_succ]
            refine wpAnyH_take (i := 24) (oi := _) (v := ?va23) rfl (by kernel_rfl) (by kernel_rfl) (by kernel_rfl) (fun _ _ _ h => h) (Or.inl ⟨by rfl, ?hya23⟩) (by assumption) ?resta23
            case hya23 => ((intro W hSw; (try dsimp only at hSw); go_simp; try with_reducible rfl))
            try simp only [Act.put, List.setIfInBounds_toArray, List.set_cons_zero, List.set_cons_succ]
            try simp only [List.getElem_toArray, List.getElem_cons_zero, List.getElem_cons_succ]
            refine wpAnyH_take (i := 25) (oi := _) (v := ?va24) rfl (by kernel_rfl) (by kernel_rfl) (by kernel_rfl) (fun _ _ _ h => h) (Or.inl ⟨by rfl, ?hya24⟩) (by assumption) ?resta24
            case hya24 => ((intro W hSw; (try dsimp only at hSw); go_simp; try with_reducible rfl))
            try simp only [Act.put, List.setIfInBounds_toArray, List.set_cons_zero, List.set_cons_succ]
            try simp only [List.getElem_toArray, List.getElem_cons_zero, List.getElem_cons_succ]
            refine wpAnyH_done (by kernel_rfl) ?_ _
            have eB : Below v6.heap.size v6 v8 := ((Below.refl v6.heap.size v6).drew.trans hc1).trans (hc2.mono (by have := hc1.size; exact this))
            clear hc1 hc2
            go_wp2_with fail
            go_meet
            exact ⟨rfl, eB⟩
          exact AllReadyH.nil
        exact AllReadyH.nil

      case rest =>
        obtain ⟨rfl, eB⟩ := hcut
        go_wp2_with fail
        go_ret
        exact ⟨rfl, HB6.out.trans (eB.mono HB6.out.size)⟩
end messages

end Go.Proofs.YtbeooijgkbkniaaGreatDoor
