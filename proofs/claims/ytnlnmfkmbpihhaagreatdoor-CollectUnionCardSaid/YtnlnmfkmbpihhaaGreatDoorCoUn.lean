/-
 WALK: stelelaw44.CollectUnion.
-/
import Derived.Test.YtnlnmfkmbpihhaaGreatDoorCoFr
import Derived.Maps.OwnOps
namespace Go.Proofs.YtnlnmfkmbpihhaaGreatDoor
open Go.RowKit Go.Maps

theorem framesL_take {ss : List ByteArray} {i : Nat} {s : ByteArray} (h : ss[i]? = some s) (y : Frm) : y ∈ framesL (ss.take (i + 1)) ↔ y ∈ framesL (ss.take i) ∨ y ∈ (scanL s 0).map Sgt.f := by
 unfold framesL
 rw [List.take_add_one, h, Option.toList_some, List.flatMap_append, List.mem_append]
 simp
theorem addF_take {cs : List Frm} (hn : cs.Nodup) {i : Nat} {f : Frm} (h : cs[i]? = some f) : f ∉ cs.take i ∧ addF (cs.take i) f = cs.take (i + 1) := by
 have h1 : f ∉ cs.take i := by
  intro hm
  obtain ⟨j, hj⟩ := List.mem_iff_getElem?.1 hm
  have hl : j < i := by
   have := (List.getElem?_eq_some_iff.1 hj).1
   rw [List.length_take] at this
   omega
  rw [List.getElem?_take, if_pos hl] at hj
  obtain ⟨a1, a2⟩ := List.getElem?_eq_some_iff.1 hj
  obtain ⟨b1, b2⟩ := List.getElem?_eq_some_iff.1 h
  exact absurd (a2.trans b2.symm) ((List.pairwise_iff_getElem.1 hn) j i a1 b1 hl)
 refine ⟨h1, ?_⟩
 rw [addF, if_neg h1, List.take_add_one, h]
 rfl
namespace counion

set_option maxRecDepth 100000 in
set_option maxHeartbeats 64000000 in
theorem walk (w : World) (v : Value) (fs : List Frm) (hv : FrmsAt w v fs) (ha : ∀ f ∈ fs, f.small) (sp : Nat) (hsp : sp < 65536) (vd : Value) (D : List Nat) (hd : U16At w vd D) (hdb : ∀ x ∈ D, x < 65536) :
  Calls Tryz.prog 10 #[v, .int .u16 (sp : Int), vd] w fun e w' => e = .returned (.bool true) ∧ Below w.heap.size w w' := by
 have HDb := Lib.hid hdb
 clear hdb
 have HA := Lib.hid (fun W => alive_any W)
 have Hv := Lib.hid hv
 have HD := Lib.hid hd
 obtain ⟨A, c, rfl, h1, h2, h3⟩ := hv
 obtain ⟨Ad, cd, rfl, hd1, hd2, hd3⟩ := hd
 clear h3 hd3
 have HF := Lib.hid (fun W : World => few_any W A Ad fs.length D.length c cd)
 by_cases h5 : fs.length ≤ 5 ∧ D.length ≤ 300
 ·rw [decide_eq_true h5] at HF
  by_cases h0 : fs.length = 0
  ·have h0I : ((fs.length : Int) == 0) = true := by simp [h0]
   clear h0
   go_enter Tryz.func10, Tryz.ntmps10
   go_wp2_with fail
   refine (HA.out _).mono ?_
   rintro e1 w1 ⟨rfl, hb1⟩
   have HB1 := Lib.hid hb1
   clear hb1
   go_wp2_with fail
   refine (HF.out _).mono ?_
   rintro e2 w2 ⟨rfl, rfl⟩
   go_wp2_with fail
   go_ret
   exact ⟨rfl, HB1.out⟩
  ·have h0I : ((fs.length : Int) == 0) = false := by rw [beq_eq_false_iff_ne]; omega
   have h0L : 0 < fs.length := by omega
   obtain ⟨f0, hf0⟩ : ∃ f0, fs[0]? = some f0 := ⟨_, List.getElem?_eq_getElem h0L⟩
   obtain ⟨ar, har⟩ : ∃ ar, f0.a = ar := ⟨_, rfl⟩
   obtain ⟨ss, hss⟩ : ∃ ss, dmgP D (pcsL fs.length sp fs) = ss := ⟨_, rfl⟩
   have HP : Hid (∀ W : World, Below w.heap.size w W → Calls Tryz.prog 24 #[.slice A fs.length c, .int .u16 (sp : Int), .slice Ad D.length cd] W fun e w' => ∃ v', e = .returned v' ∧ w'.ownsRow W.heap.size 9 1 v' ss.length (ss.map .string) ∧ Below W.heap.size W w') := Lib.hid (fun W hb => by
    rw [← hss]
    exact pieces_any W _ _ fs D sp (Hv.out.below hb) (HD.out.below hb) (by omega) ha hsp HDb.out rjoin_any)
   have hsl : ss.length ≤ 5 := by rw [← hss]; exact dmg_few h5.1
   have Hsz : Hid (∀ s ∈ ss, s.size ≤ 2556) := Lib.hid (by rw [← hss]; exact dmg_size)
   have HBu := Lib.hid (fun (W : World) (vl : Value) (h : StrvAt W vl ss) => rbusy_any W vl ss 20 h (by omega) (fun s hs => Nat.le_trans (Hsz.out s hs) (by omega)))
   have HC := Lib.hid (fun (W : World) (vl : Value) (h : StrvAt W vl ss) => coll_pieces W vl ar ss h (by omega) (fun s hm => Nat.le_trans (Hsz.out s hm) (by omega)) (piecesL_small (n := 2556) (by omega) Hsz.out))
   have HCp := Lib.hid (fun (W : World) (s : ByteArray) (hs : s.size ≤ 2556) => scpiece_any W s (by omega))
   obtain ⟨cs, hcs⟩ : ∃ cs, collF ar (piecesL 0 ss) = cs := ⟨_, rfl⟩
   have HCm : Hid (∀ y, y ∈ cs ↔ y.a = ar ∧ y ∈ framesL ss) := Lib.hid (fun y => by rw [← hcs, collF_pieces])
   have HCn : Hid cs.Nodup := Lib.hid (by rw [← hcs]; exact (collF_spec ar _).1.nodup)
   have HCl : Hid (cs.length ≤ 20000) := Lib.hid (by
    have q1 : ∀ l : List Sgt, ∀ m : List Frm, (l.foldl (collS ar) m).length ≤ m.length + l.length := by
     intro l
     induction l with
     | nil => intro m; simp
     | cons x r ih =>
      intro m
      rw [List.foldl_cons, List.length_cons]
      have := ih (collS ar m x)
      have : (collS ar m x).length ≤ m.length + 1 := by
       unfold collS
       split
       ·exact insFr_len _ _
       ·omega
      omega
    have q2 := q1 (piecesL 0 ss) []
    have q3 : (piecesL 0 ss).length ≤ 2556 * ss.length := by
     have : ∀ (ss : List ByteArray) (k : Nat), (∀ s ∈ ss, s.size ≤ 2556) → (piecesL k ss).length ≤ 2556 * ss.length := by
      intro ss
      induction ss with
      | nil => intro k _; simp [piecesL]
      | cons s r ih =>
       intro k h
       have h1 := ih (k + 1) fun x hx => h x (List.mem_cons_of_mem _ hx)
       have h2 := scanL_len s _ 0 rfl
       have h3 := h s List.mem_cons_self
       rw [piecesL, List.length_append, List.length_map, List.length_cons]
       omega
     exact this ss 0 Hsz.out
    rw [← hcs, collF]
    simp only [List.length_nil] at q2
    omega)
   rw [hcs] at HC
   have hmm := @run_makeMap Tryz.prog
   clear hss hcs
   go_enter Tryz.func10, Tryz.ntmps10
   go_wp2_with fail
   refine (HA.out _).mono ?_
   rintro e1 w1 ⟨rfl, hb1⟩
   have HB1 := Lib.hid hb1
   clear hb1
   go_wp2_with fail
   refine (HF.out _).mono ?_
   rintro e2 w2 ⟨rfl, rfl⟩
   obtain ⟨_, _, e9, _, _, h4⟩ := Hv.out.below HB1.out
   cases e9
   obtain ⟨b0, o0, rfl, h6⟩ := h4 0 f0 hf0
   have car := h6 7 _ rfl
   rw [har, Nat.zero_mul, Nat.add_zero] at car
   clear h4 h6 hf0 har
   have h0LI : (0 : Int) < fs.length := by omega
   go_wp2_with fail
   clear car
   refine (HP.out _ HB1.out).mono ?_
   rintro e3 w3 ⟨v3, rfl, ho3, hb3⟩
   obtain ⟨A3, c3, rfl⟩ := own_sliceU ho3
   have HV3 := Lib.hid (StrvAt.of_own ho3)
   have HB3 := Lib.hid (HB1.out.trans (hb3.mono HB1.out.size))
   clear ho3 hb3 HP
   go_wp2_with fail
   refine (HBu.out _ _ HV3.out).mono ?_
   rintro e4 w4 ⟨n, rfl, hn, hb4⟩
   have HV4 := Lib.hid (HV3.out.below hb4)
   have HB4 := Lib.hid (HB3.out.trans (hb4.mono HB3.out.size))
   clear hb4 HBu HV3 HB3
   rcases hn with rfl | rfl
   ·go_wp2_with fail
    refine (HC.out _ _ HV4.out).mono ?_
    rintro e5 w5 ⟨u5, rfl, hf5, hb5⟩
    have HF5 := Lib.hid hf5
    have HV5 := Lib.hid (HV4.out.below hb5)
    have HB5 := Lib.hid (HB4.out.trans (hb5.mono HB4.out.size))
    obtain ⟨A5, c5, rfl, q1, q2, _⟩ := hf5
    clear hb5 HC HB4 HV4
    have hK := Blk.new w5 55 [.int .u32 ar, .slice A5 cs.length c5]
    change Blk (w5.alloc (.cells #[.int .u32 ar, .slice A5 cs.length c5] 55)) _ _ _ at hK
    have HK := Lib.hid hK
    have hbq := (Below.refl w5.heap.size w5).alloc (Nat.le_refl _) (.cells #[.int .u32 ar, .slice A5 cs.length c5] 55)
    have HFq := Lib.hid (HF5.out.below hbq)
    have HVq := Lib.hid (HV5.out.below hbq)
    have HBq := Lib.hid (HB5.out.trans (hbq.mono HB5.out.size))
    clear hK hbq HF5 HB5 HV5
    go_upto_region 10 with fail
    obtain ⟨kb, hkb⟩ : ∃ kb, w5.heap.size = kb := ⟨_, rfl⟩
    rw [hkb] at HK ⊢
    generalize w5.alloc (.cells #[.int .u32 ar, .slice A5 cs.length c5] 55) = wq at *
    clear hkb
    have HM := Lib.hid (World.ownsMap_made (H := Unit) wq Tryz.prog 34 (plainElem Tryz.prog 4))
    have hBm := (Below.refl wq.heap.size wq).alloc (Nat.le_refl _) (.map #[] 0)
    have z1 := (HK.out.kept hBm).cell (i := 1) rfl
    have HBm := Lib.hid hBm
    clear hBm
    go_upto_region 11 with fail
    clear hmm
    generalize wq.alloc (.map #[] 0) = wm at *
    go_wp2
    clear z1
    go_loopw [47] (fun z wr => ∃ (i : Nat) (D1 : DataW Unit), i ≤ cs.length ∧ z = .int .i64 (i : Int) ∧ wr.ownsMap Tryz.prog 34 (plainElem Tryz.prog 4) wq.heap.size i D1 ∧ Seen D1 (cs.take i) ∧ Below wq.heap.size wq wr) (fun z _ => cs.length - (intOf z).toNat)
    case atStart => exact ⟨0, .map [], by omega, rfl, HM.out, Seen.empty, HBm.out⟩
    case round =>
     obtain ⟨i, D1, hi, rfl, hm, hL, hB⟩ := hrel
     clear HM HBm
     have HM1 := Lib.hid hm
     have HL := Lib.hid hL
     have HBr := Lib.hid hB
     have hbs := hB.size
     clear hm hL hB
     by_cases h : i < cs.length
     ·have hiI : (i : Int) < cs.length := by omega
      obtain ⟨f, hf⟩ : ∃ f, cs[i]? = some f := ⟨_, List.getElem?_eq_getElem h⟩
      have hok := Lib.hid (framesL_ok f ((HCm.out f).1 (List.mem_of_getElem? hf)).2)
      obtain ⟨hnot, hadd⟩ := addF_take HCn.out hf
      have Hat : Hid (D1.atKey (frmKey.K f) (.lit (.bool false)) = .lit (.bool false)) := Lib.hid (by rw [HL.out.met.2 _ hok.out]; simp [hnot])
      have HL2 : Hid (Seen (D1.put (frmKey.K f) (.lit (.bool true))) (cs.take (i + 1))) := Lib.hid (by
       rw [← hadd]
       exact HL.out.put (HM1.out.tidy frmKey.keyed) hok.out)
      obtain ⟨_, _, e9, _, _, h4⟩ := HFq.out.below HBr.out
      cases e9
      obtain ⟨b, o, rfl, h5'⟩ := h4 i f hf
      obtain ⟨k0, r0, s0, i0, l0, d0, p0, a0, t0⟩ := f
      have c0 := h5' 0 _ rfl
      have c1 := h5' 1 _ rfl
      have c2 := h5' 2 _ rfl
      have c3' := h5' 3 _ rfl
      have c4 := h5' 4 _ rfl
      have c5' := h5' 5 _ rfl
      have c6 := h5' 6 _ rfl
      have c7 := h5' 7 _ rfl
      have c8 := h5' 8 _ rfl
      dsimp only at c0 c1 c2 c3' c4 c5' c6 c7 c8
      rw [Nat.add_zero] at c0
      clear h4 h5' hf hnot hadd HL
      have Hkl : Hid (keyOf Tryz.prog 34 (.agg #[.int .i64 k0, .int .i64 r0, .int .i64 s0, .int .i64 i0, .int .i64 l0, .int .i64 d0, .int .i64 p0, .int .u32 a0, .string t0]) = some (frmKey.K ⟨k0, r0, s0, i0, l0, d0, p0, a0, t0⟩)) := Lib.hid (frmKey.key hok.out)
      have hF := Blk.new wr 34 [.int .i64 k0, .int .i64 r0, .int .i64 s0, .int .i64 i0, .int .i64 l0, .int .i64 d0, .int .i64 p0, .int .u32 a0, .string t0]
      change Blk (wr.alloc (.cells #[.int .i64 k0, .int .i64 r0, .int .i64 s0, .int .i64 i0, .int .i64 l0, .int .i64 d0, .int .i64 p0, .int .u32 a0, .string t0] 34)) _ _ _ at hF
      have HBy := Lib.hid (HBr.out.alloc HBr.out.size (.cells #[.int .i64 k0, .int .i64 r0, .int .i64 s0, .int .i64 i0, .int .i64 l0, .int .i64 d0, .int .i64 p0, .int .u32 a0, .string t0] 34))
      have HMy := Lib.hid (HM1.out.alloc (.cells #[.int .i64 k0, .int .i64 r0, .int .i64 s0, .int .i64 i0, .int .i64 l0, .int .i64 d0, .int .i64 p0, .int .u32 a0, .string t0] 34))
      go_upto_region 14 with fail
      clear c0 c1 c2 c3' c4 c5' c6 c7 c8
      obtain ⟨fb, hfb⟩ : ∃ fb, wr.heap.size = fb := ⟨_, rfl⟩
      rw [hfb] at hF ⊢
      generalize wr.alloc (.cells #[.int .i64 k0, .int .i64 r0, .int .i64 s0, .int .i64 i0, .int .i64 l0, .int .i64 d0, .int .i64 p0, .int .u32 a0, .string t0] 34) = wy at *
      clear hfb
      have g0 := hF.cell (i := 0) rfl
      have g1 := hF.cell (i := 1) rfl
      have g2 := hF.cell (i := 2) rfl
      have g3 := hF.cell (i := 3) rfl
      have g4 := hF.cell (i := 4) rfl
      have g5 := hF.cell (i := 5) rfl
      have g6 := hF.cell (i := 6) rfl
      have g7 := hF.cell (i := 7) rfl
      have g8 := hF.cell (i := 8) rfl
      have hil := HCl.out
      go_wp2_with (first
       | (refine look_boolG _ rfl _ _ 58 rfl 34 4 frmKey.keyed Tryz.underlying58 Tryz.underlying4 (by first | exact Tryz.zeroValue4 _ | rfl) wq.heap.size i D1 rfl HMy.out _ _ rfl Hkl.out false Hat.out ?_)
       | (at_mapUpdate; refine wpList_mapUpdate_own _ rfl _ _ _ 58 rfl 34 4 frmKey.keyed Tryz.underlying58 _ wq.heap.size i _ rfl HMy.out (by unfold maxLen; omega) _ _ _ rfl rfl Hkl.out _ [] (plainElem_bool Tryz.underlying4 true) ?_; intro w7 hown7 hgrow7; have Hown7 := Lib.hid hown7; have HB7 := Lib.hid (HBy.out.grown hgrow7 HBy.out.size (fun j hj => by cases hj; exact Nat.le_refl _)); clear hown7 hgrow7))
      go_roundw
      case rel => exact ⟨i + 1, _, by omega, by go_num, Hown7.out, HL2.out, HB7.out⟩
      case measure => simp [intOf]; omega
     ·obtain rfl : i = cs.length := by omega
      have hiI : ¬ ((cs.length : Nat) : Int) < (cs.length : Int) := by omega
      rw [List.take_length] at HL
      obtain ⟨wb, rfl⟩ : ∃ x, x = wr := ⟨_, rfl⟩
      have HM2 := Lib.hid (World.ownsMap_made (H := Unit) wb Tryz.prog 34 (plainElem Tryz.prog 4))
      have HBm2 := Lib.hid ((Below.refl wb.heap.size wb).alloc (Nat.le_refl _) (.map #[] 0))
      have hmm := @run_makeMap Tryz.prog
      go_upto_region 19 with fail
      clear hmm
      generalize wb.alloc (.map #[] 0) = wn at *
      go_wp2
      go_loopw [60] (fun z wx => ∃ (i n : Nat) (L2 : List Frm) (D2 : DataW Unit), i ≤ ss.length ∧ z = .int .i64 (i : Int) ∧ n ≤ 2556 * i ∧ wx.ownsMap Tryz.prog 34 (plainElem Tryz.prog 4) wb.heap.size n D2 ∧ Seen D2 L2 ∧ (∀ y, y ∈ L2 ↔ y.a = ar ∧ y ∈ framesL (ss.take i)) ∧ Below wb.heap.size wb wx) (fun z _ => ss.length - (intOf z).toNat)
      case atStart => exact ⟨0, 0, [], .map [], by omega, rfl, by omega, HM2.out, Seen.empty, fun y => by simp [framesL], HBm2.out⟩
      case round =>
       obtain ⟨wx, rfl⟩ : ∃ x, x = wr := ⟨_, rfl⟩
       obtain ⟨i, n, L2, D2, hi, rfl, hn, hm, hL, hLm, hB⟩ := hrel
       clear HM2 HBm2
       have HMx := Lib.hid hm
       have HLx := Lib.hid hL
       have HLm := Lib.hid hLm
       have HBx := Lib.hid hB
       have hbx := hB.size
       clear hm hL hLm hB
       by_cases h : i < ss.length
       ·have hiI2 : (i : Int) < ss.length := by omega
        obtain ⟨s, hs⟩ : ∃ s, ss[i]? = some s := ⟨_, List.getElem?_eq_getElem h⟩
        have hsz := Hsz.out s (List.mem_of_getElem? hs)
        have hin := List.mem_of_getElem? hs
        obtain ⟨_, _, e9, h4⟩ := HVq.out.below (HBr.out.trans (HBx.out.mono hbs))
        cases e9
        obtain ⟨b, o, rfl, hc⟩ := h4 i s hs
        have HCpx := Lib.hid (HCp.out wx s hsz)
        have Htk := Lib.hid (fun y => framesL_take hs y)
        have hxl := scanL_len s _ 0 rfl
        have Hxin : Hid (∀ x ∈ scanL s 0, x.f ∈ framesL ss ∧ frmKey.OK x.f) := Lib.hid (fun x hx => ⟨List.mem_flatMap.2 ⟨s, hin, List.mem_map_of_mem hx⟩, (scanL_ok hx).1⟩)
        clear h4 hs hin
        generalize scanL s 0 = xs at *
        have hxl2 : xs.length ≤ 2556 := by omega
        clear hxl
        go_wp2_with fail
        refine HCpx.out.mono ?_
        rintro e6 w6 ⟨u6, rfl, hs6, hb6⟩
        obtain ⟨A6, c6', rfl, hsc⟩ := hs6.all
        have HS6 := Lib.hid hsc
        have HM6 := Lib.hid (own_map_heapG HMx.out hb6)
        have HB6 := Lib.hid (HBx.out.trans (hb6.mono hbx))
        have h66 := hb6.size
        have HNE := Lib.hid (fun b t u (h : w6.cell? ⟨b, t, none⟩ = some (.int .i64 u)) => (⟨map_ne HM6.out h, cell_lt h⟩ : b ≠ wb.heap.size ∧ b < w6.heap.size))
        clear hs6 hsc hb6 HMx hc HCpx
        go_wp2
        go_loopw [67] (fun z wy => ∃ (j n2 : Nat) (L3 : List Frm) (D3 : DataW Unit), j ≤ xs.length ∧ z = .int .i64 (j : Int) ∧ n2 ≤ 2556 * i + j ∧ wy.ownsMap Tryz.prog 34 (plainElem Tryz.prog 4) wb.heap.size n2 D3 ∧ Seen D3 L3 ∧ (∀ y, y ∈ L3 ↔ y.a = ar ∧ (y ∈ framesL (ss.take i) ∨ y ∈ (xs.take j).map Sgt.f)) ∧ (∀ k, k < w6.heap.size → k ≠ wb.heap.size → wy.heap[k]? = w6.heap[k]?) ∧ Below wb.heap.size wb wy ∧ w6.heap.size ≤ wy.heap.size) (fun z _ => xs.length - (intOf z).toNat)
        case atStart => exact ⟨0, n, L2, D2, by omega, rfl, by omega, HM6.out, HLx.out, fun y => by rw [HLm.out]; simp, fun _ _ _ => rfl, HB6.out, Nat.le_refl _⟩
        case round =>
         obtain ⟨wy, rfl⟩ : ∃ x, x = wr := ⟨_, rfl⟩
         obtain ⟨j, n2, L3, D3, hj, rfl, hn2, hm, hL3, hLm3, hk, hB3, hs3⟩ := hrel
         clear HM6 HB6
         have HM3 := Lib.hid hm
         have HL3 := Lib.hid hL3
         have HLm3 := Lib.hid hLm3
         have HK3 := Lib.hid hk
         have HB3 := Lib.hid hB3
         clear hm hL3 hLm3 hk hB3
         by_cases hjx : j < xs.length
         ·have hjI : (j : Int) < xs.length := by omega
          obtain ⟨x, hx⟩ : ∃ x, xs[j]? = some x := ⟨_, List.getElem?_eq_getElem hjx⟩
          have hxin := Hxin.out x (List.mem_of_getElem? hx)
          have hok := Lib.hid hxin.2
          have Hfl := Lib.hid hxin.1
          have Htj : Hid (∀ y, y ∈ (xs.take (j + 1)).map Sgt.f ↔ y ∈ (xs.take j).map Sgt.f ∨ y = x.f) := Lib.hid (fun y => by
           rw [List.take_add_one, hx, Option.toList_some, List.map_append, List.mem_append]
           simp)
          obtain ⟨b, o, rfl, h5'⟩ := HS6.out j x hx
          obtain ⟨n1, n3⟩ := HNE.out b _ _ (h5' 0 _ rfl)
          have hcw : ∀ q u, x.cells[q]? = some u → wy.cell? ⟨b, o + j * 14 + q, none⟩ = some u := fun q u hu => cell_heap (HK3.out b n3 n1) (h5' q u hu)
          obtain ⟨pc, at_, ⟨k0, r0, s0, i0, l0, d0, p0, a0, t0⟩, ⟨q1', q2', q3'⟩⟩ := x
          have c0 := hcw 0 _ rfl
          have c1 := hcw 1 _ rfl
          have c2 := hcw 2 _ rfl
          have c3' := hcw 3 _ rfl
          have c4 := hcw 4 _ rfl
          have c5' := hcw 5 _ rfl
          have c6 := hcw 6 _ rfl
          have c7 := hcw 7 _ rfl
          have c8 := hcw 8 _ rfl
          have c9 := hcw 9 _ rfl
          have c10 := hcw 10 _ rfl
          have c11 := hcw 11 _ rfl
          have c12 := hcw 12 _ rfl
          have c13 := hcw 13 _ rfl
          dsimp only at c0 c1 c2 c3' c4 c5' c6 c7 c8 c9 c10 c11 c12 c13 Htj Hfl hok
          rw [Nat.add_zero] at c0
          clear h5' hcw hx hxin n1 n3
          have hF := Blk.new wy 38 [.int .i64 pc, .int .i64 (at_ : Int), .int .i64 k0, .int .i64 r0, .int .i64 s0, .int .i64 i0, .int .i64 l0, .int .i64 d0, .int .i64 p0, .int .u32 a0, .string t0, .int .i64 q1', .int .i64 q2', .int .i64 q3']
          change Blk (wy.alloc (.cells #[.int .i64 pc, .int .i64 (at_ : Int), .int .i64 k0, .int .i64 r0, .int .i64 s0, .int .i64 i0, .int .i64 l0, .int .i64 d0, .int .i64 p0, .int .u32 a0, .string t0, .int .i64 q1', .int .i64 q2', .int .i64 q3'] 38)) _ _ _ at hF
          have HBz := Lib.hid (HB3.out.alloc HB3.out.size (.cells #[.int .i64 pc, .int .i64 (at_ : Int), .int .i64 k0, .int .i64 r0, .int .i64 s0, .int .i64 i0, .int .i64 l0, .int .i64 d0, .int .i64 p0, .int .u32 a0, .string t0, .int .i64 q1', .int .i64 q2', .int .i64 q3'] 38))
          have HMz := Lib.hid (HM3.out.alloc (.cells #[.int .i64 pc, .int .i64 (at_ : Int), .int .i64 k0, .int .i64 r0, .int .i64 s0, .int .i64 i0, .int .i64 l0, .int .i64 d0, .int .i64 p0, .int .u32 a0, .string t0, .int .i64 q1', .int .i64 q2', .int .i64 q3'] 38))
          have HKz : Hid (∀ k, k < w6.heap.size → k ≠ wb.heap.size → (wy.alloc (.cells #[.int .i64 pc, .int .i64 (at_ : Int), .int .i64 k0, .int .i64 r0, .int .i64 s0, .int .i64 i0, .int .i64 l0, .int .i64 d0, .int .i64 p0, .int .u32 a0, .string t0, .int .i64 q1', .int .i64 q2', .int .i64 q3'] 38)).heap[k]? = w6.heap[k]?) := Lib.hid (fun k y1 y2 => (((Below.refl wy.heap.size wy).alloc (Nat.le_refl _) (.cells #[.int .i64 pc, .int .i64 (at_ : Int), .int .i64 k0, .int .i64 r0, .int .i64 s0, .int .i64 i0, .int .i64 l0, .int .i64 d0, .int .i64 p0, .int .u32 a0, .string t0, .int .i64 q1', .int .i64 q2', .int .i64 q3'] 38)).block k (by omega)).trans (HK3.out k y1 y2))
          have hsz3 : w6.heap.size ≤ (wy.alloc (.cells #[.int .i64 pc, .int .i64 (at_ : Int), .int .i64 k0, .int .i64 r0, .int .i64 s0, .int .i64 i0, .int .i64 l0, .int .i64 d0, .int .i64 p0, .int .u32 a0, .string t0, .int .i64 q1', .int .i64 q2', .int .i64 q3'] 38)).heap.size := by simp; omega
          go_upto_region 25 with fail
          clear c0 c1 c2 c3' c4 c5' c6 c7 c8 c9 c10 c11 c12 c13
          have hF0 := Lib.hid hF
          have hfbl := hF.lt
          obtain ⟨fb, hfb⟩ : ∃ fb, wy.heap.size = fb := ⟨_, rfl⟩
          rw [hfb] at hF hF0 hs3 ⊢
          generalize wy.alloc (.cells #[.int .i64 pc, .int .i64 (at_ : Int), .int .i64 k0, .int .i64 r0, .int .i64 s0, .int .i64 i0, .int .i64 l0, .int .i64 d0, .int .i64 p0, .int .u32 a0, .string t0, .int .i64 q1', .int .i64 q2', .int .i64 q3'] 38) = wz at *
          have g2 := hF.cell (i := 2) rfl
          have g3 := hF.cell (i := 3) rfl
          have g4 := hF.cell (i := 4) rfl
          have g5 := hF.cell (i := 5) rfl
          have g6 := hF.cell (i := 6) rfl
          have g7 := hF.cell (i := 7) rfl
          have g8 := hF.cell (i := 8) rfl
          have g9 := hF.cell (i := 9) rfl
          have g10 := hF.cell (i := 10) rfl
          have hfne : fb ≠ wb.heap.size := map_ne HMz.out (hF.cell (i := 0) rfl)
          clear hF hfb HM3 HB3 HK3
          by_cases hae : a0 = ar
          ·subst hae
           have Hkl : Hid (keyOf Tryz.prog 34 (.agg #[.int .i64 k0, .int .i64 r0, .int .i64 s0, .int .i64 i0, .int .i64 l0, .int .i64 d0, .int .i64 p0, .int .u32 a0, .string t0]) = some (frmKey.K ⟨k0, r0, s0, i0, l0, d0, p0, a0, t0⟩)) := Lib.hid (frmKey.key hok.out)
           have hcin : (⟨k0, r0, s0, i0, l0, d0, p0, a0, t0⟩ : Frm) ∈ cs := (HCm.out _).2 ⟨rfl, Hfl.out⟩
           have Hat : Hid (D1.atKey (frmKey.K ⟨k0, r0, s0, i0, l0, d0, p0, a0, t0⟩) (.lit (.bool false)) = .lit (.bool true)) := Lib.hid (by rw [HL.out.met.2 _ hok.out]; simp [hcin])
           have HL4 := Lib.hid (HL3.out.put (HMz.out.tidy frmKey.keyed) hok.out)
           clear hcin
           go_upto_region 27 with (at_mapUpdate; refine wpList_mapUpdate_own _ rfl _ _ _ 58 rfl 34 4 frmKey.keyed Tryz.underlying58 _ wb.heap.size n2 _ rfl HMz.out (by unfold maxLen; omega) _ _ _ rfl rfl Hkl.out _ [] (plainElem_bool Tryz.underlying4 true) ?_; intro w7 hown7 hgrow7; have Hown7 := Lib.hid hown7; have Hgr7 := Lib.hid hgrow7; clear hown7 hgrow7)
           clear g2 g3 g4 g5 g6 g7 g8 g9 g10
           have hs7 := Hgr7.out.size
           have HB7 := Lib.hid (HBz.out.grown Hgr7.out HBz.out.size (fun j hj => by cases hj; exact Nat.le_refl _))
           have hF7 := hF0.out.of_heap (Hgr7.out.block _ hF0.out.lt (fun e => by have := Option.some.inj e; omega))
           have HK7 : Hid (∀ k, k < w6.heap.size → k ≠ wb.heap.size → w7.heap[k]? = w6.heap[k]?) := Lib.hid (fun k y1 y2 => (Hgr7.out.block k (by omega) (fun e => y2 (Option.some.inj e))).trans (HKz.out k y1 y2))
           have HM17 := Lib.hid (own_map_heapG HM1.out HB7.out)
           have g2 := hF7.cell (i := 2) rfl
           have g3 := hF7.cell (i := 3) rfl
           have g4 := hF7.cell (i := 4) rfl
           have g5 := hF7.cell (i := 5) rfl
           have g6 := hF7.cell (i := 6) rfl
           have g7 := hF7.cell (i := 7) rfl
           have g8 := hF7.cell (i := 8) rfl
           have g9 := hF7.cell (i := 9) rfl
           have g10 := hF7.cell (i := 10) rfl
           clear hF7 Hgr7 hF0 HBz HMz HKz
           go_wp2_with (refine look_boolG _ rfl _ _ 58 rfl 34 4 frmKey.keyed Tryz.underlying58 Tryz.underlying4 (by first | exact Tryz.zeroValue4 _ | rfl) wq.heap.size cs.length D1 rfl HM17.out _ _ rfl Hkl.out true Hat.out ?_)
           go_roundw
           case rel => exact ⟨j + 1, _, addF L3 ⟨k0, r0, s0, i0, l0, d0, p0, a0, t0⟩, _, by omega, by go_num, by omega, Hown7.out, HL4.out, fun y => by
            rw [addF_mem, HLm3.out, Htj.out]
            constructor
            ·rintro (⟨y1, y2 | y2⟩ | rfl)
             ·exact ⟨y1, .inl y2⟩
             ·exact ⟨y1, .inr (.inl y2)⟩
             ·exact ⟨rfl, .inr (.inr rfl)⟩
            ·rintro ⟨y1, y2 | y2 | rfl⟩
             ·exact .inl ⟨y1, .inl y2⟩
             ·exact .inl ⟨y1, .inr y2⟩
             ·exact .inr rfl, HK7.out, HB7.out, by omega⟩
           case measure => simp [intOf]; omega
          ·have hb0 : (a0 == ar) = false := by simpa using hae
           go_wp2
           go_roundw
           case rel => exact ⟨j + 1, n2, L3, D3, by omega, by go_num, by omega, HMz.out, HL3.out, fun y => by
            rw [HLm3.out, Htj.out]
            constructor
            ·rintro ⟨y1, y2 | y2⟩
             ·exact ⟨y1, .inl y2⟩
             ·exact ⟨y1, .inr (.inl y2)⟩
            ·rintro ⟨y1, y2 | y2 | rfl⟩
             ·exact ⟨y1, .inl y2⟩
             ·exact ⟨y1, .inr y2⟩
             ·exact absurd y1 hae, HKz.out, HBz.out, hsz3⟩
           case measure => simp [intOf]; omega
         ·obtain rfl : j = xs.length := by omega
          have hjI : ¬ ((xs.length : Nat) : Int) < (xs.length : Int) := by omega
          go_wp2
          go_roundw
          case rel => exact ⟨i + 1, n2, L3, D3, by omega, by go_num, by omega, HM3.out, HL3.out, fun y => by rw [HLm3.out, Htk.out, List.take_length], HB3.out⟩
          case measure => simp [intOf]; omega
       ·obtain rfl : i = ss.length := by omega
        have hiI2 : ¬ ((ss.length : Nat) : Int) < (ss.length : Int) := by omega
        have hlm := HLm.out
        rw [List.take_length] at hlm
        have hcn : L2.length = cs.length := nodup_len HLx.out.nodup HCn.out fun y => by rw [HCm.out, hlm]
        have z1 := (HK.out.kept (HBr.out.trans (HBx.out.mono hbs))).cell (i := 1) rfl
        have hlen := HMx.out.len Tryz.underlying58 3
        rw [HLx.out.size, hcn] at hlen
        clear hlm
        go_wp2
        go_ret
        exact ⟨rfl, HBq.out.trans ((HBr.out.trans (HBx.out.mono hbs)).mono HBq.out.size)⟩
   ·go_wp2_with fail
    go_ret
    exact ⟨rfl, HB4.out⟩
 ·rw [decide_eq_false h5] at HF
  go_enter Tryz.func10, Tryz.ntmps10
  go_wp2_with fail
  refine (HA.out _).mono ?_
  rintro e1 w1 ⟨rfl, hb1⟩
  have HB1 := Lib.hid hb1
  clear hb1
  go_wp2_with fail
  refine (HF.out _).mono ?_
  rintro e2 w2 ⟨rfl, rfl⟩
  go_wp2_with fail
  go_ret
  exact ⟨rfl, HB1.out⟩
end counion
end Go.Proofs.YtnlnmfkmbpihhaaGreatDoor
