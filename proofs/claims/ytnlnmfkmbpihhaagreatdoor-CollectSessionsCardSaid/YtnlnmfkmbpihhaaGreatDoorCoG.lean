/-
 WALK: steleref44.Layout.
-/
import Derived.Test.YtnlnmfkmbpihhaaGreatDoorCoF
namespace Go.Proofs.YtnlnmfkmbpihhaaGreatDoor
open Go.RowKit Go.Maps

set_option maxRecDepth 100000 in
set_option maxHeartbeats 16000000 in
theorem rlay_any (w : World) (ar : Int) (v : Value) (fs : List Frm) (ss : Int) (hv : FrmsAt w v fs) :
  Calls Tryz.prog 33 #[.agg #[.int .u32 ar, v], .int .i64 ss] w fun e w' => e = .returned (layF ss fs) ∧ Below w.heap.size w w' := by
 have Hv := Lib.hid hv
 obtain ⟨A, c, rfl, h1, h2, h3⟩ := hv
 clear h3
 obtain ⟨R, hR⟩ : ∃ R, layF ss fs = R := ⟨_, rfl⟩
 rw [hR]
 have HR := Lib.hid hR
 obtain ⟨wa, hwa⟩ : ∃ wa, w.alloc (.cells #[.int .u32 ar, .slice A fs.length c] 55) = wa := ⟨_, rfl⟩
 have ha : Blk wa w.heap.size 55 [.int .u32 ar, .slice A fs.length c] := hwa ▸ Blk.new w 55 [.int .u32 ar, .slice A fs.length c]
 have sa : wa.heap.size = w.heap.size + 1 := by rw [← hwa]; simp
 have Ba : Below w.heap.size w wa := hwa ▸ (Below.refl _ _).alloc (Nat.le_refl _) _
 obtain ⟨wb, hwb⟩ : ∃ wb, wa.alloc (.cells #[.int .i64 0, .int .i64 0] 31) = wb := ⟨_, rfl⟩
 have hb : Blk wb (w.heap.size + 1) 31 [.int .i64 0, .int .i64 0] := by rw [← sa, ← hwb]; exact Blk.new wa 31 [.int .i64 0, .int .i64 0]
 have ha2 : Blk wb w.heap.size 55 [.int .u32 ar, .slice A fs.length c] := hwb ▸ ha.alloc _
 have sb : wb.heap.size = w.heap.size + 1 + 1 := by rw [← hwb]; simp [sa]
 have Bb : Below w.heap.size w wb := hwb ▸ Ba.alloc Ba.size _
 obtain ⟨wz, hwz⟩ : ∃ wz, wb.alloc (.cells #[.int .i64 0, .int .i64 0] 31) = wz := ⟨_, rfl⟩
 have hd : Blk wz (w.heap.size + 1 + 1) 31 [.int .i64 0, .int .i64 0] := by rw [← sb, ← hwz]; exact Blk.new wb 31 [.int .i64 0, .int .i64 0]
 have HA : Hid (Blk wz w.heap.size 55 [.int .u32 ar, .slice A fs.length c]) := Lib.hid (hwz ▸ ha2.alloc _)
 have HB : Hid (Blk wz (w.heap.size + 1) 31 [.int .i64 0, .int .i64 0]) := Lib.hid (hwz ▸ hb.alloc _)
 have HD := Lib.hid hd
 have HBz : Hid (Below w.heap.size w wz) := Lib.hid (hwz ▸ Bb.alloc Bb.size _)
 have hWW : ((w.alloc (.cells #[.int .u32 ar, .slice A fs.length c] 55)).alloc (.cells #[.int .i64 0, .int .i64 0] 31)).alloc (.cells #[.int .i64 0, .int .i64 0] 31) = wz := by rw [hwa, hwb, hwz]
 clear ha sa Ba hb ha2 sb Bb hd hwa hwb hwz hR
 go_enter Tryz.func33, Tryz.ntmps33
 go_upto_region 3 with fail
 (try rw [hWW])
 clear hWW
 go_wp2
 go_loopw [6, 8] (fun y x wr => ∃ (k : Nat) (st : Option (Int × Int)) (la lb : Int), k ≤ fs.length ∧ x = .int .i64 (k : Int) ∧ y = .bool st.isSome ∧ R = layR ((fs.drop k).foldl (layStep ss) (some st)) ∧ Blk wr w.heap.size 55 [.int .u32 ar, .slice A fs.length c] ∧
  Blk wr (w.heap.size + 1) 31 [.int .i64 0, .int .i64 0] ∧ Blk wr (w.heap.size + 1 + 1) 31 [.int .i64 la, .int .i64 lb] ∧ (∀ y, st = some y → y = (la, lb)) ∧ Below w.heap.size w wr) (fun _ x _ => fs.length - (intOf x).toNat)
 case atStart => exact ⟨0, none, 0, 0, by omega, rfl, rfl, by rw [List.drop_zero]; exact HR.out.symm, HA.out, HB.out, HD.out, (fun y hy => by cases hy), HBz.out⟩
 case round =>
  obtain ⟨k, st, la, lb, hk, rfl, rfl, hr, hc, hb, hd, hst, hB⟩ := hrel
  clear HR HA HB HD HBz
  have HBr := Lib.hid hB
  have Hr := Lib.hid hr
  have Hst := Lib.hid hst
  have Hc := Lib.hid hc
  have Hb := Lib.hid hb
  have Hd := Lib.hid hd
  have hz1 := hc.cell (i := 1) rfl
  clear hB hr hst hc hb hd
  by_cases h : k < fs.length
  ·have hkI : (k : Int) < fs.length := by omega
   obtain ⟨f, hf⟩ : ∃ f, fs[k]? = some f := ⟨_, List.getElem?_eq_getElem h⟩
   obtain ⟨_, _, e9, _, _, h4⟩ := Hv.out.below HBr.out
   cases e9
   obtain ⟨b, o, rfl, h5⟩ := h4 k f hf
   have hd := Hr.out
   rw [frm_drop hf, List.foldl_cons] at hd
   have Hd2 := Lib.hid hd
   obtain ⟨k0, r0, s0, i0, l0, d0, p0, a0, t0⟩ := f
   have c0 := h5 0 _ rfl
   have c1 := h5 1 _ rfl
   have c2 := h5 2 _ rfl
   have c3 := h5 3 _ rfl
   have c4 := h5 4 _ rfl
   have c5 := h5 5 _ rfl
   have c6 := h5 6 _ rfl
   have c7 := h5 7 _ rfl
   have c8 := h5 8 _ rfl
   dsimp only at c0 c1 c2 c3 c4 c5 c6 c7 c8
   rw [Nat.add_zero] at c0
   clear h4 h5 hd hf Hr
   have hF := Blk.new wr 34 [.int .i64 k0, .int .i64 r0, .int .i64 s0, .int .i64 i0, .int .i64 l0, .int .i64 d0, .int .i64 p0, .int .u32 a0, .string t0]
   change Blk (wr.alloc (.cells #[.int .i64 k0, .int .i64 r0, .int .i64 s0, .int .i64 i0, .int .i64 l0, .int .i64 d0, .int .i64 p0, .int .u32 a0, .string t0] 34)) _ _ _ at hF
   have hBy := HBr.out.alloc HBr.out.size (.cells #[.int .i64 k0, .int .i64 r0, .int .i64 s0, .int .i64 i0, .int .i64 l0, .int .i64 d0, .int .i64 p0, .int .u32 a0, .string t0] 34)
   have hcy := Hc.out.alloc (.cells #[.int .i64 k0, .int .i64 r0, .int .i64 s0, .int .i64 i0, .int .i64 l0, .int .i64 d0, .int .i64 p0, .int .u32 a0, .string t0] 34)
   have hby := Hb.out.alloc (.cells #[.int .i64 k0, .int .i64 r0, .int .i64 s0, .int .i64 i0, .int .i64 l0, .int .i64 d0, .int .i64 p0, .int .u32 a0, .string t0] 34)
   have hdy := Hd.out.alloc (.cells #[.int .i64 k0, .int .i64 r0, .int .i64 s0, .int .i64 i0, .int .i64 l0, .int .i64 d0, .int .i64 p0, .int .u32 a0, .string t0] 34)
   go_upto_region 7 with fail
   clear c0 c1 c2 c3 c4 c5 c6 c7 c8 hz1
   have hlt := Hd.out.lt
   generalize wr.alloc (.cells #[.int .i64 k0, .int .i64 r0, .int .i64 s0, .int .i64 i0, .int .i64 l0, .int .i64 d0, .int .i64 p0, .int .u32 a0, .string t0] 34) = wy at *
   have f2 := hF.cell (i := 2) rfl
   have f5 := hF.cell (i := 5) rfl
   have f6 := hF.cell (i := 6) rfl
   have HBy := Lib.hid hBy
   have Hcy := Lib.hid hcy
   have Hby := Lib.hid hby
   have Hxy := Lib.hid hdy
   clear hF hBy hcy hby hdy HBr Hc Hb Hd
   by_cases hs : s0 = ss
   ·subst hs
    cases st with
    | none =>
     have HX : Hid (R = layR ((fs.drop (k + 1)).foldl (layStep s0) (some (some (d0, p0))))) := Lib.hid (by rw [Hd2.out]; unfold layStep; rw [if_pos rfl])
     clear Hd2 Hst
     rw [show (none : Option (Int × Int)).isSome = false from rfl]
     obtain ⟨W1, hE, hbw, htu⟩ := two_set Hxy.out d0 p0
     have HTx := Lib.hid Hxy.out.there
     have HE := Lib.hid hE
     have HB1 := Lib.hid (htu.below HBy.out (show w.heap.size ≤ w.heap.size + 1 + 1 by omega))
     have Hc1 := Lib.hid (Hcy.out.turned htu (by omega))
     have Hb1 := Lib.hid (Hby.out.turned htu (by omega))
     have Hbw := Lib.hid hbw
     clear hE hbw htu Hcy Hby HBy
     go_wp2_with (refine lay_store rfl (.tmp 7) (.tmp 35) rfl _ _ rfl rfl HTx.out rfl (by simp [Value.oneCell']) W1 HE.out ?_)
     go_roundw
     case rel => exact ⟨k + 1, some (d0, p0), d0, p0, by omega, by go_num, rfl, HX.out, Hc1.out, Hb1.out, Hbw.out, (fun y hy => by cases hy; rfl), HB1.out⟩
     case measure => simp [intOf]; omega
    | some y =>
     obtain rfl := Hst.out y rfl
     rw [show (some (la, lb)).isSome = true from rfl]
     have x0 := Hxy.out.cell (i := 0) rfl
     have x1 := Hxy.out.cell (i := 1) rfl
     by_cases q : la = d0 ∧ lb = p0
     ·obtain ⟨rfl, rfl⟩ := q
      have HX : Hid (R = layR ((fs.drop (k + 1)).foldl (layStep s0) (some (some (la, lb))))) := Lib.hid (by
       rw [Hd2.out]
       unfold layStep
       rw [if_pos rfl]
       dsimp only
       rw [if_pos rfl])
      clear Hd2 Hst
      obtain ⟨W1, hE, hbw, htu⟩ := two_set Hxy.out la lb
      have HTx := Lib.hid Hxy.out.there
      have HE := Lib.hid hE
      have HB1 := Lib.hid (htu.below HBy.out (show w.heap.size ≤ w.heap.size + 1 + 1 by omega))
      have Hc1 := Lib.hid (Hcy.out.turned htu (by omega))
      have Hb1 := Lib.hid (Hby.out.turned htu (by omega))
      have Hbw := Lib.hid hbw
      clear hE hbw htu Hcy Hby HBy
      go_wp2_with (refine lay_store rfl (.tmp 7) (.tmp 35) rfl _ _ rfl rfl HTx.out rfl (by simp [Value.oneCell']) W1 HE.out ?_)
      go_roundw
      case rel => exact ⟨k + 1, some (la, lb), la, lb, by omega, by go_num, rfl, HX.out, Hc1.out, Hb1.out, Hbw.out, (fun y hy => by cases hy; rfl), HB1.out⟩
      case measure => simp [intOf]; omega
     ·have HX : Hid (R = .tuple #[.agg #[.int .i64 0, .int .i64 0], .int .i64 20]) := Lib.hid (by
       rw [Hd2.out]
       have e : layStep s0 (some (some (la, lb))) ⟨k0, r0, s0, i0, l0, d0, p0, a0, t0⟩ = none := by
        unfold layStep
        rw [if_pos rfl]
        dsimp only
        rw [if_neg (by simpa using q)]
       rw [e, lay_none]
       rfl)
      have HTb := Lib.hid Hby.out.there
      clear Hd2 Hst
      by_cases q1 : la = d0
      ·have q2 : ¬ lb = p0 := fun e => q ⟨q1, e⟩
       subst q1
       clear q
       obtain ⟨W1, hE, hbw, htu⟩ := two_set Hby.out 0 0
       have HE := Lib.hid hE
       have HB1 := Lib.hid (htu.below HBy.out (show w.heap.size ≤ w.heap.size + 1 by omega))
       have Hbw := Lib.hid hbw
       clear hE hbw htu
       go_wp2_with (refine lay_store rfl (.tmp 4) (.tmp 33) rfl _ _ rfl rfl HTb.out rfl (by simp [Value.oneCell']) W1 HE.out ?_)
       have m0 := Hbw.out.cell (i := 0) rfl
       have m1 := Hbw.out.cell (i := 1) rfl
       exact bodyPost_ret (v := .tuple #[.agg #[.int .i64 0, .int .i64 0], .int .i64 20]) (by simp [results, Tryz.results33, go_sem, m0, m1]) rfl ⟨congrArg Ending.returned HX.out.symm, HB1.out⟩
      ·clear q
       obtain ⟨W1, hE, hbw, htu⟩ := two_set Hby.out 0 0
       have HE := Lib.hid hE
       have HB1 := Lib.hid (htu.below HBy.out (show w.heap.size ≤ w.heap.size + 1 by omega))
       have Hbw := Lib.hid hbw
       clear hE hbw htu
       go_wp2_with (refine lay_store rfl (.tmp 4) (.tmp 33) rfl _ _ rfl rfl HTb.out rfl (by simp [Value.oneCell']) W1 HE.out ?_)
       have m0 := Hbw.out.cell (i := 0) rfl
       have m1 := Hbw.out.cell (i := 1) rfl
       exact bodyPost_ret (v := .tuple #[.agg #[.int .i64 0, .int .i64 0], .int .i64 20]) (by simp [results, Tryz.results33, go_sem, m0, m1]) rfl ⟨congrArg Ending.returned HX.out.symm, HB1.out⟩
   ·have hne : (s0 != ss) = true := by rw [bne_iff_ne]; exact hs
    have hst2 : layStep ss (some st) ⟨k0, r0, s0, i0, l0, d0, p0, a0, t0⟩ = some st := by unfold layStep; rw [if_neg hs]
    have hd := Hd2.out
    rw [hst2] at hd
    have Hd3 := Lib.hid hd
    clear hd hst2 hs
    go_wp2
    go_roundw
    case rel => exact ⟨k + 1, st, la, lb, by omega, by go_num, rfl, Hd3.out, Hcy.out, Hby.out, Hxy.out, Hst.out, HBy.out⟩
    case measure => simp [intOf]; omega
  ·obtain rfl : k = fs.length := by omega
   have hkI : ¬ (fs.length : Int) < fs.length := by omega
   have hr := Hr.out
   rw [List.drop_length, List.foldl_nil] at hr
   have HTb := Lib.hid Hb.out.there
   have Hr2 := Lib.hid hr
   clear hr Hr
   cases st with
   | none =>
    rw [show (none : Option (Int × Int)).isSome = false from rfl]
    obtain ⟨W1, hE, hbw, htu⟩ := two_set Hb.out 0 0
    have HE := Lib.hid hE
    have HB1 := Lib.hid (htu.below HBr.out (show w.heap.size ≤ w.heap.size + 1 by omega))
    have Hbw := Lib.hid hbw
    clear hE hbw htu
    go_wp2_with (refine lay_store rfl (.tmp 4) (.tmp 38) rfl _ _ rfl rfl HTb.out rfl (by simp [Value.oneCell']) W1 HE.out ?_)
    have m0 := Hbw.out.cell (i := 0) rfl
    have m1 := Hbw.out.cell (i := 1) rfl
    exact bodyPost_ret (v := .tuple #[.agg #[.int .i64 0, .int .i64 0], .int .i64 19]) (by simp [results, Tryz.results33, go_sem, m0, m1]) rfl ⟨congrArg Ending.returned Hr2.out.symm, HB1.out⟩
   | some y =>
    obtain rfl := Hst.out y rfl
    rw [show (some (la, lb)).isSome = true from rfl]
    have x0 := Hd.out.cell (i := 0) rfl
    have x1 := Hd.out.cell (i := 1) rfl
    obtain ⟨W1, hE, hbw, htu⟩ := two_set Hb.out la lb
    have HE := Lib.hid hE
    have HB1 := Lib.hid (htu.below HBr.out (show w.heap.size ≤ w.heap.size + 1 by omega))
    have Hbw := Lib.hid hbw
    clear hE hbw htu
    go_wp2_with (refine lay_store rfl (.tmp 4) (.tmp 39) rfl _ _ rfl rfl HTb.out rfl (by simp [Value.oneCell']) W1 HE.out ?_)
    have m0 := Hbw.out.cell (i := 0) rfl
    have m1 := Hbw.out.cell (i := 1) rfl
    exact bodyPost_ret (v := .tuple #[.agg #[.int .i64 la, .int .i64 lb], .int .i64 0]) (by simp [results, Tryz.results33, go_sem, m0, m1]) rfl ⟨congrArg Ending.returned Hr2.out.symm, HB1.out⟩
end Go.Proofs.YtnlnmfkmbpihhaaGreatDoor
