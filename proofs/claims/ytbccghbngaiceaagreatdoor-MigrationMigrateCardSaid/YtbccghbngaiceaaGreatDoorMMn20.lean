/-
  Joined: MgE.
-/
import Derived.Test.YtbccghbngaiceaaGreatDoorMMn19
set_option linter.all false
set_option maxRecDepth 100000
set_option maxHeartbeats 64000000
namespace Go.Proofs.YtbccghbngaiceaaGreatDoor
section
open Go.RowKit
theorem enE_1 {e : Ent} (h : ¬ (1 ≤ e.k ∧ e.k ≤ 6)) : enE e = 10 := by rw [enE, if_pos (by omega)]
theorem enE_2 {e : Ent} (hk : 1 ≤ e.k ∧ e.k ≤ 6) (h : pathE (bs e.path) ≠ 0) : enE e = pathE (bs e.path) := by rw [enE, if_neg (by omega), if_pos h]
theorem enE_3 {e : Ent} (hk : 1 ≤ e.k ∧ e.k ≤ 6) (hp : pathE (bs e.path) = 0) (h : e.path.size = 0 ∧ e.k < 5) : enE e = 1 := by rw [enE, if_neg (by omega), if_neg (fun c => c hp), if_pos h]
theorem enE_4 {e : Ent} (hk : 1 ≤ e.k ∧ e.k ≤ 6) (hp : pathE (bs e.path) = 0) (hn : ¬ (e.path.size = 0 ∧ e.k < 5)) (h : attrsE e.attrs ≠ 0) : enE e = attrsE e.attrs := by rw [enE, if_neg (by omega), if_neg (fun c => c hp), if_neg hn, if_pos h]
theorem enE_5 {e : Ent} (hk : 1 ≤ e.k ∧ e.k ≤ 6) (hp : pathE (bs e.path) = 0) (hn : ¬ (e.path.size = 0 ∧ e.k < 5)) (ha : attrsE e.attrs = 0) (h : (0 < e.attrs.length ∧ 3 < e.k) ∨ tgtB e = false) : enE e = 1 := by rw [enE, if_neg (by omega), if_neg (fun c => c hp), if_neg hn, if_neg (fun c => c ha), if_pos h]
theorem enE_6 {e : Ent} (hk : 1 ≤ e.k ∧ e.k ≤ 6) (hp : pathE (bs e.path) = 0) (hn : ¬ (e.path.size = 0 ∧ e.k < 5)) (ha : attrsE e.attrs = 0) (h : ¬ ((0 < e.attrs.length ∧ 3 < e.k) ∨ tgtB e = false)) : enE e = contE e := by rw [enE, if_neg (by omega), if_neg (fun c => c hp), if_neg hn, if_neg (fun c => c ha), if_neg h]
theorem check36_ex (w : World) (e : Ent) (va vx : Value) (hva : SeqAt atrS w va e.attrs) (hvx : SeqAt extS w vx e.exts) (hp : e.path.size ≤ 1000000) (ht : e.tgt.size ≤ 1000000) (ha : ∀ a ∈ e.attrs, a.k.size ≤ 1000000) (hx : e.exts.length ≤ 100000) :
  Calls Tryz.prog 132 #[entV e va vx] w fun r w' => r = .returned (.int .i64 (enE e)) ∧ Below w.heap.size w w' := by
 have HT := Lib.hid (fun W => target36_any W e va vx ht)
 obtain ⟨R, hR⟩ : ∃ R, enE e = R := ⟨_, rfl⟩
 have HP := Lib.hid hR
 rw [hR]
 clear hR
 obtain ⟨TG, hTG⟩ : ∃ T, tgtB e = T := ⟨_, rfl⟩
 rw [hTG] at HT
 have HTG := Lib.hid hTG
 clear hTG
 obtain ⟨k, path, attrs, t, size, dig, exts⟩ := e
 dsimp only at hva hvx hp ht ha hx
 have HPa := Lib.hid (fun W => path_any W path hp)
 have Hva := Lib.hid hva
 have Hvx := Lib.hid hvx
 obtain ⟨Aa, ca, rfl, ha1, ha2⟩ := hva.slice
 obtain ⟨Ax, cx, rfl, hx1, hx2⟩ := hvx.slice
 clear hva hvx
 rw [entV] at HT ⊢
 dsimp only at HT ⊢
 have hK := Blk.new w 48 [.int .i64 k, .string path, .slice Aa attrs.length ca, .string t, .int .i64 size, .string dig, .slice Ax exts.length cx]
 change Blk (w.alloc (.cells #[.int .i64 k, .string path, .slice Aa attrs.length ca, .string t, .int .i64 size, .string dig, .slice Ax exts.length cx] 48)) _ _ _ at hK
 have HB0 := Lib.hid ((Below.refl w.heap.size w).alloc (Nat.le_refl _) (.cells #[.int .i64 k, .string path, .slice Aa attrs.length ca, .string t, .int .i64 size, .string dig, .slice Ax exts.length cx] 48))
 have HK := Lib.hid hK
 have c0 := hK.cell (i := 0) rfl
 clear hK
 obtain ⟨N, hN⟩ : ∃ N, nameK k = N := ⟨_, rfl⟩
 have HNm := Lib.hid (fun W => name_any W k)
 rw [hN] at HNm
 by_cases hk : 1 ≤ k ∧ k ≤ 6
 ·have hn0 : N.toList.isEmpty = false := isEmptyV (by rw [← hN]; have := (nameK_some hk).1; omega)
  have HNk := Lib.hid hk
  clear hN hk
  go_enter Tryz.func132, Tryz.ntmps132
  go_wp2_with fail
  refine (HNm.out _).mono ?_
  rintro e1 w1 ⟨rfl, rfl⟩
  generalize w.alloc (.cells #[.int .i64 k, .string path, .slice Aa attrs.length ca, .string t, .int .i64 size, .string dig, .slice Ax exts.length cx] 48) = wb at *
  have c1 := HK.out.cell (i := 1) rfl
  go_wp2_with fail
  refine (HPa.out _).mono ?_
  rintro e2 w2 ⟨rfl, hb2⟩
  have HK2 := Lib.hid (HK.out.kept hb2)
  have HB2 := Lib.hid (HB0.out.trans (hb2.mono HB0.out.size))
  clear hb2 HK HB0 c0 c1
  by_cases hpe : pathE (bs path) = 0
  ·have HPe := Lib.hid hpe
   rw [hpe]
   clear hpe
   have c0 := HK2.out.cell (i := 0) rfl
   have c1 := HK2.out.cell (i := 1) rfl
   obtain ⟨bad1, hb1⟩ : ∃ b, decide (path.size = 0 ∧ k < 5) = b := ⟨_, rfl⟩
   go_upto_region 6 with fail
   go_cut [26] (fun s wx => s = .bool bad1 ∧ w2 = wx)
   case first =>
    by_cases h0 : path.size = 0
    ·have e0 : path.toList.isEmpty = true := by
      rw [show path = ⟨#[]⟩ by apply ByteArray.ext; exact Array.eq_empty_of_size_eq_zero h0]
      exact isEmptyV0
     by_cases h5 : k < 5
     ·have HE : Hid (bad1 = true) := Lib.hid (by rw [← hb1]; exact decide_eq_true ⟨h0, h5⟩)
      clear hb1 h0
      go_wp2_with fail
      go_meet
      exact ⟨by rw [HE.out], rfl⟩
     ·have HE : Hid (bad1 = false) := Lib.hid (by rw [← hb1]; exact decide_eq_false fun h => h5 h.2)
      clear hb1 h0
      go_wp2_with fail
      go_meet
      exact ⟨by rw [HE.out], rfl⟩
    ·have e0 : path.toList.isEmpty = false := isEmptyV h0
     have HE : Hid (bad1 = false) := Lib.hid (by rw [← hb1]; exact decide_eq_false fun h => h0 h.1)
     clear hb1 h0
     go_wp2_with fail
     go_meet
     exact ⟨by rw [HE.out], rfl⟩
   case rest =>
    obtain ⟨rfl, rfl⟩ := hcut
    cases bad1 with
    | true =>
     have h := of_decide_eq_true hb1
     have HV : Hid (R = 1) := Lib.hid (by rw [← HP.out]; exact enE_3 HNk.out HPe.out h)
     clear h hb1
     go_wp2_with fail
     go_ret
     exact ⟨by rw [HV.out] <;> rfl, HB2.out⟩
    | false =>
     have HNd : Hid (path.size = 0 → 5 ≤ k) := Lib.hid (fun q => by
      by_cases q2 : k < 5
      ·exact absurd (decide_eq_true (p := path.size = 0 ∧ k < 5) ⟨q, q2⟩) (by rw [hb1]; decide)
      ·omega)
     clear hb1
     have c2 := HK2.out.cell (i := 2) rfl
     have HAt : Hid (Calls Tryz.prog 207 #[.slice Aa attrs.length ca] w2 fun e w' => e = .returned (.int .i64 (attrsE attrs)) ∧ Below w2.heap.size w2 w') := Lib.hid (attrs_any w2 _ attrs (Hva.out.below HB2.out) ha)
     go_wp2_with fail
     refine HAt.out.mono ?_
     rintro e3 w3 ⟨rfl, hb3⟩
     have HK3 := Lib.hid (HK2.out.kept hb3)
     have HB3 := Lib.hid (HB2.out.trans (hb3.mono HB2.out.size))
     clear hb3 HK2 HB2 HAt c0 c1 c2
     by_cases hae : attrsE attrs = 0
     ·have HAe := Lib.hid hae
      rw [hae]
      clear hae
      have c0 := HK3.out.cell (i := 0) rfl
      have c2 := HK3.out.cell (i := 2) rfl
      have c1 := HK3.out.cell (i := 1) rfl
      have c3 := HK3.out.cell (i := 3) rfl
      have c4 := HK3.out.cell (i := 4) rfl
      have c5 := HK3.out.cell (i := 5) rfl
      have c6 := HK3.out.cell (i := 6) rfl
      obtain ⟨bad2, hb2⟩ : ∃ b, (decide (0 < attrs.length ∧ 3 < k) || !TG) = b := ⟨_, rfl⟩
      go_upto_region 11 with fail
      go_cut [46] (fun s wx => ∃ W, s = .bool bad2 ∧ W = wx ∧ Below w3.heap.size w3 W)
      case first =>
       by_cases hb : 0 < attrs.length ∧ 3 < k
       ·have f1 : (0 : Int) < attrs.length := by omega
        have f2 : 3 < k := hb.2
        have HE : Hid (bad2 = true) := Lib.hid (by rw [← hb2, decide_eq_true hb, Bool.true_or])
        clear hb hb2
        go_wp2_with fail
        go_meet
        exact ⟨_, by rw [HE.out], rfl, Below.refl _ _⟩
       ·have HE : Hid (bad2 = !TG) := Lib.hid (by rw [← hb2, decide_eq_false hb, Bool.false_or])
        have hz2 : (¬ (0 : Int) < attrs.length) ∨ ((0 : Int) < attrs.length ∧ ¬ 3 < k) := by
         by_cases q : 0 < attrs.length
         ·exact .inr ⟨by omega, fun q2 => hb ⟨q, q2⟩⟩
         ·exact .inl (by omega)
        clear hb hb2
        rcases hz2 with f1 | ⟨f1, f2⟩
        ·go_wp2_with fail
         refine (HT.out _).mono ?_
         rintro e4 w4 ⟨rfl, hb4⟩
         go_wp2_with fail
         go_meet
         exact ⟨_, by rw [HE.out], rfl, hb4⟩
        ·go_wp2_with fail
         refine (HT.out _).mono ?_
         rintro e4 w4 ⟨rfl, hb4⟩
         go_wp2_with fail
         go_meet
         exact ⟨_, by rw [HE.out], rfl, hb4⟩
      case rest =>
       obtain ⟨w4, rfl, rfl, hb4⟩ := hcut
       have HK4 := Lib.hid (HK3.out.kept hb4)
       have HB4 := Lib.hid (HB3.out.trans (hb4.mono HB3.out.size))
       clear hb4 HK3 HB3 c0 c1 c2 c3 c4 c5 c6
       cases bad2 with
       | true =>
        have HV : Hid (R = 1) := Lib.hid (by
         rw [← HP.out]
         refine enE_5 HNk.out HPe.out (fun c => ?_) HAe.out ?_
         ·have := HNd.out c.1
          have := c.2
          dsimp only at this
          omega
         ·cases TG with
          | false => exact .inr HTG.out
          | true => rw [Bool.not_true, Bool.or_false] at hb2; exact .inl (of_decide_eq_true hb2))
        clear hb2
        go_wp2_with fail
        go_ret
        exact ⟨by rw [HV.out] <;> rfl, HB4.out⟩
       | false =>
        have HTt : Hid (TG = true) := Lib.hid (by
         cases TG with
         | true => rfl
         | false => rw [Bool.not_false, Bool.or_true] at hb2; cases hb2)
        have HBa : Hid (0 < attrs.length → k ≤ 3) := Lib.hid (fun q => by
         by_cases q2 : 3 < k
         ·rw [decide_eq_true ⟨q, q2⟩, Bool.true_or] at hb2; cases hb2
         ·omega)
        have HC : Hid (contE ⟨k, path, attrs, t, size, dig, exts⟩ = R) := Lib.hid (by
         rw [← HP.out]
         refine (enE_6 HNk.out HPe.out (fun c => ?_) HAe.out ?_).symm
         ·have := HNd.out c.1
          have := c.2
          dsimp only at this
          omega
         ·rintro (c | c)
          ·have := HBa.out c.1
           have := c.2
           dsimp only at this
           omega
          ·have := HTG.out
           rw [HTt.out] at this
           rw [this] at c
           cases c)
        clear hb2
        have c0 := HK4.out.cell (i := 0) rfl
        have c4 := HK4.out.cell (i := 4) rfl
        have c5 := HK4.out.cell (i := 5) rfl
        have c6 := HK4.out.cell (i := 6) rfl
        by_cases s1 : size < 0
        ·have HV : Hid (R = 2) := Lib.hid (by rw [← HC.out, contE, if_pos (.inl s1)])
         go_wp2_with fail
         go_ret
         exact ⟨by rw [HV.out] <;> rfl, HB4.out⟩
        ·by_cases s2 : 65536 < size
         ·have HV : Hid (R = 2) := Lib.hid (by rw [← HC.out, contE, if_pos (.inr (.inl s2))])
          go_wp2_with fail
          go_ret
          exact ⟨by rw [HV.out] <;> rfl, HB4.out⟩
         ·by_cases k1 : k = 1
          ·have kb : (k == 1) = true := by rw [k1]; rfl
           by_cases dg : dig.size = 32
           ·have db : ((dig.size : Int) != 32) = false := by rw [dg]; rfl
            have HSi : Hid (0 ≤ size ∧ size ≤ 65536 ∧ (k ≠ 1 → size = 0)) := Lib.hid ⟨by omega, by omega, fun h => absurd k1 h⟩
            have HDi : Hid ((k = 1 → dig.size = 32) ∧ (k ≠ 1 → dig.size = 0)) := Lib.hid ⟨fun _ => dg, fun h => absurd k1 h⟩
            have HX1 : Hid (R = if exts.all extB = false then 2 else if sumX exts = size then 0 else 1) := Lib.hid (by
             rw [← HC.out, contE, if_neg (fun c => c.elim s1 (fun c => c.elim s2 (fun c => c.1 k1))), if_neg (fun c => c.elim (fun c => c.2 dg) (fun c => c.1 k1)), if_neg (fun c => c k1)])
            clear dg k1
            go_wp2
            go_loopw [6, 7, 8] (fun y x _ wr => ∃ (i : Nat) (S : Int), i ≤ exts.length ∧ x = .int .i64 (i : Int) ∧ y = .int .i64 S ∧ 0 ≤ S ∧ S ≤ 65536 * (i : Int) ∧ S + sumX (exts.drop i) = sumX exts ∧ (∀ z ∈ exts.take i, extB z = true) ∧ Below w4.heap.size w4 wr) (fun _ x _ _ => exts.length - (intOf x).toNat)
            case atStart => exact ⟨0, 0, by omega, rfl, rfl, by omega, by omega, by rw [List.drop_zero]; omega, fun z hz => by simp at hz, Below.refl _ _⟩
            case round =>
             obtain ⟨i, S, hi, rfl, rfl, hS0, hS1, hS, hall, hB⟩ := hrel
             have HS := Lib.hid hS
             have HB := Lib.hid hB
             have HAl := Lib.hid hall
             have hKr := HK4.out.kept hB
             clear hS hB hall c4 c5 c6
             have c6 := hKr.cell (i := 6) rfl
             have c4 := hKr.cell (i := 4) rfl
             clear hKr
             by_cases h : i < exts.length
             ·have hiI : (i : Int) < exts.length := by omega
              obtain ⟨x, hx'⟩ : ∃ x, exts[i]? = some x := ⟨_, List.getElem?_eq_getElem h⟩
              have hxm := List.mem_of_getElem? hx'
              have hd : exts.drop i = x :: exts.drop (i + 1) := by
               obtain ⟨h1, h2⟩ := List.getElem?_eq_some_iff.1 hx'
               rw [List.drop_eq_getElem_cons h1, h2]
              have HF : Hid (extB x = false → R = 2) := Lib.hid (fun e => by rw [HX1.out, if_pos (List.all_eq_false.2 ⟨x, hxm, by rw [e]; decide⟩)])
              have HAll : Hid (extB x = true → ∀ z ∈ exts.take (i + 1), extB z = true) := Lib.hid (fun e z hz => by
               rw [List.take_add_one, hx', Option.toList_some] at hz
               rcases List.mem_append.1 hz with hz | hz
               ·exact HAl.out z hz
               ·rw [List.mem_singleton.1 hz]; exact e)
              have HS3 : Hid (S + x.l + sumX (exts.drop (i + 1)) = sumX exts) := Lib.hid (by
               have := HS.out
               rw [hd, sumX] at this
               omega)
              obtain ⟨_, _, e9, _, _, h4⟩ := Hvx.out.below (HB4.out.trans (HB.out.mono HB4.out.size))
              cases e9
              obtain ⟨b, o, cs, rfl, rfl, hc⟩ := h4 i x hx'
              obtain ⟨x0, x1, x2⟩ := x
              have e0 : wr.cell? ⟨b, o + i * 3, none⟩ = some (.int .i64 x0) := hc 0 _ rfl
              have e1 : wr.cell? ⟨b, o + i * 3 + 1, none⟩ = some (.int .i64 x1) := hc 1 _ rfl
              have e2 : wr.cell? ⟨b, o + i * 3 + 2, none⟩ = some (.int .i64 x2) := hc 2 _ rfl
              dsimp only at HS3
              clear hc h4 hx' hd hxm HS HAl
              have hF := Blk.new wr 80 [.int .i64 x0, .int .i64 x1, .int .i64 x2]
              change Blk (wr.alloc (.cells #[.int .i64 x0, .int .i64 x1, .int .i64 x2] 80)) _ _ _ at hF
              have hBz := HB.out.alloc HB.out.size (.cells #[.int .i64 x0, .int .i64 x1, .int .i64 x2] 80)
              have hKz := HK4.out.kept hBz
              have HBz := Lib.hid hBz
              have HBw := Lib.hid (HB4.out.trans (hBz.mono HB4.out.size))
              clear hBz HB
              go_upto_region 23 with fail
              clear e0 e1 e2 c4 c6
              generalize wr.alloc (.cells #[.int .i64 x0, .int .i64 x1, .int .i64 x2] 80) = wz at *
              generalize wr.heap.size = fb at *
              have c6 := hKz.cell (i := 6) rfl
              have c4 := hKz.cell (i := 4) rfl
              have g0 := hF.cell (i := 0) rfl
              have g1 := hF.cell (i := 1) rfl
              have g2 := hF.cell (i := 2) rfl
              clear hF hKz
              by_cases y0 : x0 < 0
              ·have HV : Hid (R = 2) := Lib.hid (HF.out (by rw [extB]; exact decide_eq_false (by dsimp only; omega)))
               go_wp2
               go_ret
               exact ⟨by rw [HV.out] <;> rfl, HBw.out⟩
              ·by_cases y1 : 255 < x0
               ·have HV : Hid (R = 2) := Lib.hid (HF.out (by rw [extB]; exact decide_eq_false (by dsimp only; omega)))
                go_wp2
                go_ret
                exact ⟨by rw [HV.out] <;> rfl, HBw.out⟩
               ·by_cases y2 : x1 < 0
                ·have HV : Hid (R = 2) := Lib.hid (HF.out (by rw [extB]; exact decide_eq_false (by dsimp only; omega)))
                 go_wp2
                 go_ret
                 exact ⟨by rw [HV.out] <;> rfl, HBw.out⟩
                ·by_cases y3 : 2147483647 < x1
                 ·have HV : Hid (R = 2) := Lib.hid (HF.out (by rw [extB]; exact decide_eq_false (by dsimp only; omega)))
                  go_wp2
                  go_ret
                  exact ⟨by rw [HV.out] <;> rfl, HBw.out⟩
                 ·by_cases y4 : x2 < 1
                  ·have HV : Hid (R = 2) := Lib.hid (HF.out (by rw [extB]; exact decide_eq_false (by dsimp only; omega)))
                   go_wp2
                   go_ret
                   exact ⟨by rw [HV.out] <;> rfl, HBw.out⟩
                  ·by_cases y5 : 65536 < x2
                   ·have HV : Hid (R = 2) := Lib.hid (HF.out (by rw [extB]; exact decide_eq_false (by dsimp only; omega)))
                    go_wp2
                    go_ret
                    exact ⟨by rw [HV.out] <;> rfl, HBw.out⟩
                   ·by_cases y6 : x0 = 0
                    ·have z6 : (x0 == 0) = true := by rw [y6]; rfl
                     by_cases y7 : x1 = 0
                     ·have z7 : (x1 != 0) = false := by rw [y7]; rfl
                      have HXB : Hid (extB ⟨x0, x1, x2⟩ = true) := Lib.hid (by rw [extB]; exact decide_eq_true (by dsimp only; omega))
                      have hS2 : S + x2 ≤ 65536 * ((i : Int) + 1) := by omega
                      have hS3 : 0 ≤ S + x2 := by omega
                      go_wp2
                      go_roundw
                      case rel => exact ⟨i + 1, S + x2, by omega, by go_num, by go_num, by omega, by omega, HS3.out, HAll.out HXB.out, HBz.out⟩
                      case measure => simp [intOf]; omega
                     ·have z7 : (x1 != 0) = true := by rw [bne_iff_ne]; exact y7
                      have HV : Hid (R = 2) := Lib.hid (HF.out (by rw [extB]; exact decide_eq_false (by dsimp only; omega)))
                      go_wp2
                      go_ret
                      exact ⟨by rw [HV.out] <;> rfl, HBw.out⟩
                    ·have z6 : (x0 == 0) = false := by rw [beq_eq_false_iff_ne]; exact y6
                     have HXB : Hid (extB ⟨x0, x1, x2⟩ = true) := Lib.hid (by rw [extB]; exact decide_eq_true (by dsimp only; omega))
                     have hS2 : S + x2 ≤ 65536 * ((i : Int) + 1) := by omega
                     have hS3 : 0 ≤ S + x2 := by omega
                     go_wp2
                     go_roundw
                     case rel => exact ⟨i + 1, S + x2, by omega, by go_num, by go_num, by omega, by omega, HS3.out, HAll.out HXB.out, HBz.out⟩
                     case measure => simp [intOf]; omega
             ·obtain rfl : i = exts.length := by omega
              have hiI : ¬ ((exts.length : Nat) : Int) < (exts.length : Int) := by omega
              have hS' := HS.out
              rw [List.drop_length, sumX, Int.add_zero] at hS'
              have hAll := HAl.out
              rw [List.take_length] at hAll
              by_cases hq : S = size
              ·have HV : Hid (R = 0) := Lib.hid (by
                rw [HX1.out, if_neg (by rw [List.all_eq_true.2 hAll]; decide), if_pos (by omega)])
               have hz0 : (S != size) = false := by rw [hq]; simp
               clear hS' hAll hq
               go_wp2
               go_ret
               exact ⟨by rw [HV.out] <;> rfl, HB4.out.trans (HB.out.mono HB4.out.size)⟩
              ·have HV : Hid (R = 1) := Lib.hid (by
                rw [HX1.out, if_neg (by rw [List.all_eq_true.2 hAll]; decide), if_neg (by omega)])
               have hz0 : (S != size) = true := by rw [bne_iff_ne]; exact hq
               clear hS' hAll hq
               go_wp2
               go_ret
               exact ⟨by rw [HV.out] <;> rfl, HB4.out.trans (HB.out.mono HB4.out.size)⟩
           ·have db : ((dig.size : Int) != 32) = true := by rw [bne_iff_ne]; omega
            have HV : Hid (R = 1) := Lib.hid (by rw [← HC.out, contE, if_neg (fun c => c.elim s1 (fun c => c.elim s2 (fun c => c.1 k1))), if_pos (.inl ⟨k1, dg⟩)])
            clear dg k1
            go_wp2_with fail
            go_ret
            exact ⟨by rw [HV.out] <;> rfl, HB4.out⟩
          ·have kb : (k == 1) = false := by rw [beq_eq_false_iff_ne]; exact k1
           by_cases sz : size = 0
           ·subst sz
            by_cases dg : dig.size = 0
            ·have db : dig.toList.isEmpty = true := by
              rw [show dig = ⟨#[]⟩ by apply ByteArray.ext; exact Array.eq_empty_of_size_eq_zero dg]
              exact isEmptyV0
             have HSi : Hid ((0 : Int) ≤ 0 ∧ (0 : Int) ≤ 65536 ∧ (k ≠ 1 → (0 : Int) = 0)) := Lib.hid ⟨by omega, by omega, fun _ => rfl⟩
             have HX1 : Hid (R = if exts = [] then 0 else 1) := Lib.hid (by
              rw [← HC.out, contE, if_neg (fun c => c.elim (fun c => by simp at c) (fun c => c.elim (fun c => by simp at c) (fun c => c.2 rfl))), if_neg (fun c => c.elim (fun c => k1 c.1) (fun c => c.2 dg)), if_pos k1])
             clear dg
             go_wp2
             go_loopw [6, 7, 8] (fun y x _ wr => ∃ (i : Nat) (S : Int), i = 0 ∧ i ≤ exts.length ∧ x = .int .i64 (i : Int) ∧ y = .int .i64 S ∧ 0 ≤ S ∧ S ≤ 65536 * (i : Int) ∧ S + sumX (exts.drop i) = sumX exts ∧ (∀ z ∈ exts.take i, extB z = true) ∧ Below w4.heap.size w4 wr) (fun _ x _ _ => exts.length - (intOf x).toNat)
             case atStart => exact ⟨0, 0, rfl, by omega, rfl, rfl, by omega, by omega, by rw [List.drop_zero]; omega, fun z hz => by simp at hz, Below.refl _ _⟩
             case round =>
              obtain ⟨i, S, hi0, hi, rfl, rfl, hS0, hS1, hS, hall, hB⟩ := hrel
              have HI0 := Lib.hid hi0
              clear hi0
              have HS := Lib.hid hS
              have HB := Lib.hid hB
              have HAl := Lib.hid hall
              have hKr := HK4.out.kept hB
              clear hS hB hall c4 c5 c6
              have c6 := hKr.cell (i := 6) rfl
              have c4 := hKr.cell (i := 4) rfl
              clear hKr
              by_cases h : i < exts.length
              ·have hiI : (i : Int) < exts.length := by omega
               obtain ⟨x, hx'⟩ : ∃ x, exts[i]? = some x := ⟨_, List.getElem?_eq_getElem h⟩
               have hxm := List.mem_of_getElem? hx'
               have hd : exts.drop i = x :: exts.drop (i + 1) := by
                obtain ⟨h1, h2⟩ := List.getElem?_eq_some_iff.1 hx'
                rw [List.drop_eq_getElem_cons h1, h2]
               have HAll : Hid (extB x = true → ∀ z ∈ exts.take (i + 1), extB z = true) := Lib.hid (fun e z hz => by
                rw [List.take_add_one, hx', Option.toList_some] at hz
                rcases List.mem_append.1 hz with hz | hz
                ·exact HAl.out z hz
                ·rw [List.mem_singleton.1 hz]; exact e)
               have HS3 : Hid (S + x.l + sumX (exts.drop (i + 1)) = sumX exts) := Lib.hid (by
                have := HS.out
                rw [hd, sumX] at this
                omega)
               obtain ⟨_, _, e9, _, _, h4⟩ := Hvx.out.below (HB4.out.trans (HB.out.mono HB4.out.size))
               cases e9
               obtain ⟨b, o, cs, rfl, rfl, hc⟩ := h4 i x hx'
               obtain ⟨x0, x1, x2⟩ := x
               have e0 : wr.cell? ⟨b, o + i * 3, none⟩ = some (.int .i64 x0) := hc 0 _ rfl
               have e1 : wr.cell? ⟨b, o + i * 3 + 1, none⟩ = some (.int .i64 x1) := hc 1 _ rfl
               have e2 : wr.cell? ⟨b, o + i * 3 + 2, none⟩ = some (.int .i64 x2) := hc 2 _ rfl
               dsimp only at HS3
               clear hc h4 hx' hd hxm HS HAl
               have hF := Blk.new wr 80 [.int .i64 x0, .int .i64 x1, .int .i64 x2]
               change Blk (wr.alloc (.cells #[.int .i64 x0, .int .i64 x1, .int .i64 x2] 80)) _ _ _ at hF
               have hBz := HB.out.alloc HB.out.size (.cells #[.int .i64 x0, .int .i64 x1, .int .i64 x2] 80)
               have hKz := HK4.out.kept hBz
               have HBz := Lib.hid hBz
               have HBw := Lib.hid (HB4.out.trans (hBz.mono HB4.out.size))
               clear hBz HB
               go_upto_region 23 with fail
               clear e0 e1 e2 c4 c6
               generalize wr.alloc (.cells #[.int .i64 x0, .int .i64 x1, .int .i64 x2] 80) = wz at *
               generalize wr.heap.size = fb at *
               have c6 := hKz.cell (i := 6) rfl
               have c4 := hKz.cell (i := 4) rfl
               have g0 := hF.cell (i := 0) rfl
               have g1 := hF.cell (i := 1) rfl
               have g2 := hF.cell (i := 2) rfl
               clear hF hKz
               have HV : Hid (R = 1) := Lib.hid (by
                rw [HX1.out, if_neg]
                rintro rfl
                exact absurd h (by simp))
               go_wp2
               go_ret
               exact ⟨by rw [HV.out] <;> rfl, HBw.out⟩
              ·obtain rfl : i = exts.length := by omega
               have hiI : ¬ ((exts.length : Nat) : Int) < (exts.length : Int) := by omega
               have hS' := HS.out
               rw [List.drop_length, sumX, Int.add_zero] at hS'
               have hAll := HAl.out
               rw [List.take_length] at hAll
               by_cases hq : S = 0
               ·have HV : Hid (R = 0) := Lib.hid (by
                 rw [HX1.out, if_pos (List.length_eq_zero_iff.1 HI0.out)])
                have hz0 : (S != 0) = false := by rw [hq]; simp
                clear hS' hAll hq
                go_wp2
                go_ret
                exact ⟨by rw [HV.out] <;> rfl, HB4.out.trans (HB.out.mono HB4.out.size)⟩
               ·exfalso
                have h0 := List.length_eq_zero_iff.1 HI0.out
                rw [h0, sumX] at hS'
                exact hq hS'
            ·have db : dig.toList.isEmpty = false := isEmptyV dg
             have HV : Hid (R = 1) := Lib.hid (by rw [← HC.out, contE, if_neg (fun c => c.elim (fun c => by simp at c) (fun c => c.elim (fun c => by simp at c) (fun c => c.2 rfl))), if_pos (.inr ⟨k1, dg⟩)])
             clear dg k1
             go_wp2_with fail
             go_ret
             exact ⟨by rw [HV.out] <;> rfl, HB4.out⟩
           ·have sb : (size != 0) = true := by rw [bne_iff_ne]; exact sz
            have HV : Hid (R = 2) := Lib.hid (by rw [← HC.out, contE, if_pos (.inr (.inr ⟨k1, sz⟩))])
            clear sz k1
            go_wp2_with fail
            go_ret
            exact ⟨by rw [HV.out] <;> rfl, HB4.out⟩
     ·have hne : (attrsE attrs != 0) = true := by rw [bne_iff_ne]; exact hae
      have HV : Hid (R = attrsE attrs) := Lib.hid (by
       rw [← HP.out]
       refine enE_4 HNk.out HPe.out (fun c => ?_) hae
       have := HNd.out c.1
       have := c.2
       dsimp only at this
       omega)
      clear hae
      generalize attrsE attrs = ae at *
      go_wp2_with fail
      go_ret
      exact ⟨by rw [HV.out] <;> rfl, HB3.out⟩
  ·have hne : (pathE (bs path) != 0) = true := by rw [bne_iff_ne]; exact hpe
   have HV : Hid (R = pathE (bs path)) := Lib.hid (by rw [← HP.out]; exact enE_2 HNk.out hpe)
   clear hpe
   generalize pathE (bs path) = pe at *
   go_wp2_with fail
   go_ret
   exact ⟨by rw [HV.out] <;> rfl, HB2.out⟩
 ·have hn0 : N = ⟨#[]⟩ := by rw [← hN]; exact nameK_none hk
  subst hn0
  have HV : Hid (R = 10) := Lib.hid (by rw [← HP.out]; exact enE_1 hk)
  clear hN hk
  go_enter Tryz.func132, Tryz.ntmps132
  go_wp2_with fail
  refine (HNm.out _).mono ?_
  rintro e1 w1 ⟨rfl, rfl⟩
  go_wp2_with fail
  go_ret
  exact ⟨by rw [HV.out] <;> rfl, HB0.out⟩
end
end Go.Proofs.YtbccghbngaiceaaGreatDoor
