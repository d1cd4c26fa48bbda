/-
 WALK: steleref44.Collect.
-/
import Derived.Test.YtnlnmfkmbpihhaaGreatDoorCoK
import Derived.Test.YtnlnmfkmbpihhaaGreatDoorCoD
namespace Go.Proofs.YtnlnmfkmbpihhaaGreatDoor
open Go.RowKit

/-- A block of a collection holds no 64-bit number. -/
theorem coll_ne {W : World} {b g t : Nat} {ar k : Int} {A : Option Addr} {n c : Nat} (hB : Blk W g 55 [.int .u32 ar, .slice A n c]) (h : W.cell? ⟨b, t, none⟩ = some (.int .i64 k)) : b ≠ g := by
 rintro rfl
 have h0 := hB.cell (i := 0) rfl
 have h1 := hB.cell (i := 1) rfl
 match t, h with
 | 0, h => rw [h0] at h; cases h
 | 1, h => rw [h1] at h; cases h
 | t + 2, h =>
  unfold Blk at hB
  simp [World.cell?, hB] at h
theorem FrmsAt.setc {W : World} {g : Nat} {ar : Int} {A : Option Addr} {n c : Nat} {v : Value} {fs : List Frm} (h : FrmsAt W v fs) (hB : Blk W g 55 [.int .u32 ar, .slice A n c]) (j : Nat) (u : Value) : FrmsAt (W.setCell ⟨g, j, none⟩ u) v fs := by
 obtain ⟨A, c, e, h1, h2, h3⟩ := h
 refine ⟨A, c, e, h1, h2, fun i f hf => ?_⟩
 obtain ⟨b, o, e1, h4⟩ := h3 i f hf
 have hne := coll_ne hB (h4 0 _ rfl)
 exact ⟨b, o, e1, fun j u hu => (World.cell?_setCell_other _ _ _ _ (fun e => hne (congrArg Addr.block e).symm)).trans (h4 j u hu)⟩
/-- The cells of sightings. -/
def SgC (W : World) (A : Option Addr) (xs : List Sgt) : Prop := ∀ i x, xs[i]? = some x → ∃ b o, A = some ⟨b, o, none⟩ ∧ ∀ j u, x.cells[j]? = some u → W.cell? ⟨b, o + i * 14 + j, none⟩ = some u
theorem SgC.below {W W' : World} {A : Option Addr} {xs : List Sgt} (h : SgC W A xs) (hb : Below W.heap.size W W') : SgC W' A xs := fun i x hx => by
 obtain ⟨b, o, e, h4⟩ := h i x hx
 exact ⟨b, o, e, fun j u hu => cell_below hb (h4 j u hu)⟩
theorem SgC.setc {W : World} {g : Nat} {ar : Int} {A B : Option Addr} {n c : Nat} {xs : List Sgt} (h : SgC W A xs) (hB : Blk W g 55 [.int .u32 ar, .slice B n c]) (j : Nat) (u : Value) : SgC (W.setCell ⟨g, j, none⟩ u) A xs := fun i x hx => by
 obtain ⟨b, o, e, h4⟩ := h i x hx
 have hne := coll_ne hB (h4 0 _ rfl)
 exact ⟨b, o, e, fun j u hu => (World.cell?_setCell_other _ _ _ _ (fun e => hne (congrArg Addr.block e).symm)).trans (h4 j u hu)⟩
/-- The frames of an archive among sightings, inserted one by one. -/
def collS (ar : Int) (l : List Frm) (x : Sgt) : List Frm := if x.f.a = ar then insFr x.f l else l
theorem insG_cnt (f : Frm) : ∀ (l : List Frm) (a : Bool × List Frm), (l.foldl (insG f) a).2.length ≤ a.2.length + l.length + (if a.1 then 0 else if (l.foldl (insG f) a).1 then 1 else 0)
 | [], a => by simp
 | o :: r, (true, z) => by
  have h := insG_cnt f r (true, z ++ [o])
  rw [List.foldl_cons, show insG f (true, z) o = (true, z ++ [o]) from rfl]
  simp at h ⊢
  omega
 | o :: r, (false, z) => by
  rw [List.foldl_cons]
  cases hq : lesF f o with
  | true =>
   have e : insG f (false, z) o = (true, z ++ [f] ++ [o]) := by unfold insG; rw [hq]; rfl
   have h := insG_cnt f r (true, z ++ [f] ++ [o])
   have hd : ∀ (r : List Frm) (z : List Frm), (r.foldl (insG f) (true, z)).1 = true := fun r => by
    induction r with
    | nil => exact fun z => rfl
    | cons o r ih => exact fun z => ih _
   rw [e, hd, if_neg (by simp), if_pos rfl]
   simp at h ⊢
   omega
  | false =>
   have e : insG f (false, z) o = (false, z ++ [o]) := by unfold insG; rw [hq]; rfl
   have h := insG_cnt f r (false, z ++ [o])
   rw [e]
   simp only [List.length_append, List.length_cons, List.length_nil] at h ⊢
   omega
theorem insFr_len (f : Frm) (l : List Frm) : (insFr f l).length ≤ l.length + 1 := by
 have h := insG_cnt f l (false, [])
 unfold insFr
 split
 ·omega
 ·split
  ·rename_i h2
   rw [if_neg (by simp), if_pos h2] at h
   simpa using h
  ·rename_i h2
   rw [if_neg (by simp), if_neg h2] at h
   simpa using h

set_option maxRecDepth 100000 in
set_option maxHeartbeats 16000000 in
theorem rcoll_any (w : World) (vl : Value) (ar : Int) (xs : List Sgt) (hl : xs.length ≤ 900000)
  (hP : ∀ W, Below w.heap.size w W → Calls Tryz.prog 20 #[vl] W fun e w' => ∃ v, e = .returned v ∧ SgtsAt w' v xs ∧ Below W.heap.size W w') :
  Calls Tryz.prog 27 #[vl, .int .u32 ar] w fun e w' => ∃ v, e = .returned (.agg #[.int .u32 ar, v]) ∧ FrmsAt w' v (xs.foldl (collS ar) []) ∧ Below w.heap.size w w' := by
 have HP := Lib.hid hP
 obtain ⟨R, hR⟩ : ∃ R, xs.foldl (collS ar) [] = R := ⟨_, rfl⟩
 rw [hR]
 have HR := Lib.hid hR
 clear hR hP
 have hb1 := ((Below.refl w.heap.size w).alloc (Nat.le_refl _) (.cells #[.int .u32 0, .slice none 0 0] 55)).alloc (by simp) (.cells #[.int .u32 ar, .slice none 0 0] 55)
 have HB1 := Lib.hid hb1
 have h1 := (Blk.new w 55 [.int .u32 0, .slice none 0 0]).alloc (.cells #[.int .u32 ar, .slice none 0 0] 55)
 have H1 := Lib.hid h1
 have h2 := Blk.new (w.alloc (.cells #[.int .u32 0, .slice none 0 0] 55)) 55 [.int .u32 ar, .slice none 0 0]
 rw [show (w.alloc (.cells #[.int .u32 0, .slice none 0 0] 55)).heap.size = w.heap.size + 1 by simp] at h2
 have H2 := Lib.hid h2
 change Hid (Blk ((w.alloc (.cells #[.int .u32 0, .slice none 0 0] 55)).alloc (.cells #[.int .u32 ar, .slice none 0 0] 55)) _ _ _) at H2
 change Hid (Blk ((w.alloc (.cells #[.int .u32 0, .slice none 0 0] 55)).alloc (.cells #[.int .u32 ar, .slice none 0 0] 55)) _ _ _) at H1
 clear hb1 h1 h2
 go_enter Tryz.func27, Tryz.ntmps27
 go_upto_region 2 with fail
 generalize (w.alloc (.cells #[.int .u32 0, .slice none 0 0] 55)).alloc (.cells #[.int .u32 ar, .slice none 0 0] 55) = wz at *
 go_wp2_with fail
 refine (HP.out _ HB1.out).mono ?_
 rintro e w1 ⟨vs, rfl, hs, hb1⟩
 obtain ⟨A, c, rfl, hsc⟩ := hs.all
 have HS1 : Hid (SgC w1 A xs) := Lib.hid hsc
 have H1 := Lib.hid (H1.out.kept hb1)
 have H2 := Lib.hid (H2.out.kept hb1)
 have HB1 := Lib.hid (HB1.out.trans (hb1.mono HB1.out.size))
 clear hb1 hs hsc HP
 go_wp2
 go_loopw [7] (fun x wr => ∃ (i : Nat) (l : List Frm) (Av : Option Addr) (n cv : Nat), i ≤ xs.length ∧ x = .int .i64 (i : Int) ∧ l.length ≤ i ∧ R = (xs.drop i).foldl (collS ar) l ∧ FrmsAt wr (.slice Av n cv) l ∧ Blk wr (w.heap.size + 1) 55 [.int .u32 ar, .slice Av n cv] ∧ Blk wr w.heap.size 55 [.int .u32 0, .slice none 0 0] ∧ SgC wr A xs ∧ Below w.heap.size w wr) (fun x _ => xs.length - (intOf x).toNat)
 case atStart => exact ⟨0, [], none, 0, 0, by omega, rfl, by simp, HR.out.symm, ⟨none, 0, rfl, Nat.le_refl _, by omega, fun i x hx => by cases hx⟩, H2.out, H1.out, HS1.out, HB1.out⟩
 case round =>
  obtain ⟨i, l, Av, n, cv, hi, rfl, hll, hr, hf, h2, h1, hs, hB⟩ := hrel
  clear H1 H2 HS1 HB1 HR
  have Hr := Lib.hid hr
  have Hf := Lib.hid hf
  have H2 := Lib.hid h2
  have H1 := Lib.hid h1
  have HS := Lib.hid hs
  have HBr := Lib.hid hB
  have hbs := hB.size
  clear hr hf h2 h1 hs hB
  by_cases h : i < xs.length
  ·have hiI : (i : Int) < xs.length := by omega
   obtain ⟨x, hx⟩ : ∃ x, xs[i]? = some x := ⟨_, List.getElem?_eq_getElem h⟩
   obtain ⟨b, o, rfl, h5⟩ := HS.out i x hx
   have hd : xs.drop i = x :: xs.drop (i + 1) := by
    obtain ⟨q1, q2⟩ := List.getElem?_eq_some_iff.1 hx
    rw [List.drop_eq_getElem_cons q1, q2]
   have hr := Hr.out
   rw [hd, List.foldl_cons] at hr
   have hbn := coll_ne H2.out (h5 0 _ rfl)
   obtain ⟨pc, at_, ⟨k1, r1, s1, i1, l1, d1, p1, a1, t1⟩, ⟨q1, q2, q3⟩⟩ := x
   have c2 := h5 2 _ rfl
   have c3 := h5 3 _ rfl
   have c4 := h5 4 _ rfl
   have c5 := h5 5 _ rfl
   have c6 := h5 6 _ rfl
   have c7 := h5 7 _ rfl
   have c8 := h5 8 _ rfl
   have c9 := h5 9 _ rfl
   have c10 := h5 10 _ rfl
   dsimp only at c2 c3 c4 c5 c6 c7 c8 c9 c10
   clear h5 hd hx Hr
   unfold collS at hr
   dsimp only at hr
   by_cases ha : a1 = ar
   ·subst ha
    rw [if_pos rfl] at hr
    have hlen := insFr_len ⟨k1, r1, s1, i1, l1, d1, p1, a1, t1⟩ l
    have HI := Lib.hid (fun (W : World) (v : Value) (hv : FrmsAt W v l) => ins_any W v l ⟨k1, r1, s1, i1, l1, d1, p1, a1, t1⟩ hv (by omega))
    unfold Frm.v frV at HI
    dsimp only at HI
    have Hr := Lib.hid hr
    generalize insFr ⟨k1, r1, s1, i1, l1, d1, p1, a1, t1⟩ l = l2 at *
    have hc := H2.out.cell (i := 1) rfl
    clear hr
    go_upto_region 7 with fail
    refine wp_region_held_drew (S := (fun W => W.cell? ⟨b, o + i * 14 + 2, none⟩ = some (.int .i64 k1) ∧ W.cell? ⟨b, o + i * 14 + 3, none⟩ = some (.int .i64 r1) ∧ W.cell? ⟨b, o + i * 14 + 4, none⟩ = some (.int .i64 s1) ∧ W.cell? ⟨b, o + i * 14 + 5, none⟩ = some (.int .i64 i1) ∧ W.cell? ⟨b, o + i * 14 + 6, none⟩ = some (.int .i64 l1) ∧ W.cell? ⟨b, o + i * 14 + 7, none⟩ = some (.int .i64 d1) ∧ W.cell? ⟨b, o + i * 14 + 8, none⟩ = some (.int .i64 p1) ∧ W.cell? ⟨b, o + i * 14 + 9, none⟩ = some (.int .u32 a1) ∧ W.cell? ⟨b, o + i * 14 + 10, none⟩ = some (.string t1))) (by kernel_rfl) ?_ (fun hHeld => ?_)
    ·exact ⟨c2, c3, c4, c5, c6, c7, c8, c9, c10⟩
    refine tk 0 ?_
    refine tk 2 ?_
    refine tk 3 ?_
    refine tk 4 ?_
    refine tk 5 ?_
    refine tk 6 ?_
    refine wpAnyH_ready (rs := [1]) (by kernel_rfl) (by simp) ?_
    refine AllReadyH.cons (o := _) rfl (fun K hK => ?_) ?_
    ·go_simp
     refine hko hK (by exact ⟨c2, c3, c4, c5, c6, c7, c8, c9, c10⟩) (fun _ => ?_)
     clear hK K
     refine wpAnyH_ready (rs := [7]) (by kernel_rfl) (by simp) ?_
     refine AllReadyH.cons (o := _) rfl (fun K hK => ?_) ?_
     ·go_simp
      refine (HI.out wr.drew _ (by exact Hf.out)).mono ?_
      rintro e w6 ⟨v6, rfl, hf6, hb6⟩
      have HF6 := Lib.hid hf6
      obtain ⟨A6, cp6, rfl, hn6, hm6, _⟩ := hf6
      (try go_wp2_with fail)
      refine hko hK (by exact ⟨cell_below hb6 c2, cell_below hb6 c3, cell_below hb6 c4, cell_below hb6 c5, cell_below hb6 c6, cell_below hb6 c7, cell_below hb6 c8, cell_below hb6 c9, cell_below hb6 c10⟩) (fun _ => ?_)
      clear hK K
      have H26 := H2.out.kept ((Below.refl _ wr).drew.trans hb6)
      have hc6 := H26.cell (i := 1) rfl
      have hz6 := H26.frozen 1
      refine tk 8 ?_
      refine wpAnyH_ready (rs := [9]) (by kernel_rfl) (by simp) ?_
      refine AllReadyH.cons (o := _) rfl (fun K hK => ?_) ?_
      ·go_simp
       refine hko hK (by exact ⟨(World.cell?_setCell_other _ _ _ _ (fun e => hbn (congrArg Addr.block e).symm)).trans (cell_below hb6 c2), (World.cell?_setCell_other _ _ _ _ (fun e => hbn (congrArg Addr.block e).symm)).trans (cell_below hb6 c3), (World.cell?_setCell_other _ _ _ _ (fun e => hbn (congrArg Addr.block e).symm)).trans (cell_below hb6 c4), (World.cell?_setCell_other _ _ _ _ (fun e => hbn (congrArg Addr.block e).symm)).trans (cell_below hb6 c5), (World.cell?_setCell_other _ _ _ _ (fun e => hbn (congrArg Addr.block e).symm)).trans (cell_below hb6 c6), (World.cell?_setCell_other _ _ _ _ (fun e => hbn (congrArg Addr.block e).symm)).trans (cell_below hb6 c7), (World.cell?_setCell_other _ _ _ _ (fun e => hbn (congrArg Addr.block e).symm)).trans (cell_below hb6 c8), (World.cell?_setCell_other _ _ _ _ (fun e => hbn (congrArg Addr.block e).symm)).trans (cell_below hb6 c9), (World.cell?_setCell_other _ _ _ _ (fun e => hbn (congrArg Addr.block e).symm)).trans (cell_below hb6 c10)⟩) (fun _ => ?_)
       clear hK K
       refine wpAnyH_done (by kernel_rfl) ?_ _
       have hbb : Below wr.heap.size wr w6 := (Below.refl _ wr).drew.trans hb6
       have HX2 := Lib.hid (H26.set 1 (.slice A6 l2.length cp6))
       have HX1 := Lib.hid ((H1.out.kept hbb).far (p := ⟨w.heap.size + 1, 1, none⟩) (by simp) (.slice A6 l2.length cp6))
       have HXS := Lib.hid ((HS.out.below hbb).setc H26 1 (.slice A6 l2.length cp6))
       have HXF := Lib.hid (HF6.out.setc H26 1 (.slice A6 l2.length cp6))
       have HXB := Lib.hid ((HBr.out.trans (hbb.mono hbs)).setCell (p := ⟨w.heap.size + 1, 1, none⟩) (by simp) (.slice A6 l2.length cp6))
       clear hbb hb6 H26 hc6 hz6 HF6 H1 H2 HS Hf HBr hc hHeld HI
       go_wp2
       go_roundw
       case rel => exact ⟨i + 1, l2, A6, l2.length, cp6, by omega, by go_num, by omega, Hr.out, HXF.out, HX2.out, HX1.out, HXS.out, HXB.out⟩
       case measure => simp [intOf]; omega
      exact AllReadyH.nil
     exact AllReadyH.nil
    exact AllReadyH.nil
   ·rw [if_neg ha] at hr
    have Hr := Lib.hid hr
    have hb0 : (a1 == ar) = false := by simpa using ha
    clear hr
    go_wp2
    go_roundw
    case rel => exact ⟨i + 1, l, Av, n, cv, by omega, by go_num, by omega, Hr.out, Hf.out, H2.out, H1.out, HS.out, HBr.out⟩
    case measure => simp [intOf]; omega
  ·obtain rfl : i = xs.length := by omega
   have hiI : ¬ (xs.length : Int) < xs.length := by omega
   have hr := Hr.out
   rw [List.drop_length, List.foldl_nil] at hr
   have Hr2 := Lib.hid hr
   have z0 := H2.out.cell (i := 0) rfl
   have z1 := H2.out.cell (i := 1) rfl
   have HT := Lib.hid H1.out.there
   have HG := Lib.hid (setCells_below HBr.out (Nat.le_refl _) [.int .u32 ar, .slice Av n cv] 0)
   have HFx := setCells_blk [.int .u32 ar, .slice Av n cv] [] [.int .u32 0, .slice none 0 0] _ H1.out rfl
   rw [show ([] : List Value).length = 0 from rfl, List.nil_append] at HFx
   have hf2 := (Hf.out.setc H1.out 0 (.int .u32 ar)).setc (H1.out.set 0 (.int .u32 ar)) 1 (.slice Av n cv)
   obtain ⟨W1, hE⟩ : ∃ W1, wr.setCells w.heap.size 0 [.int .u32 ar, .slice Av n cv] = W1 := ⟨_, rfl⟩
   have HE := Lib.hid hE
   have HF2 : Hid (FrmsAt W1 (.slice Av n cv) l) := Lib.hid (by rw [← hE]; exact hf2)
   rw [hE] at HG HFx
   have HM := Lib.hid HFx
   clear hE HFx hf2
   go_wp2_with (refine coll_store rfl (.tmp 4) (.tmp 35) rfl _ _ rfl rfl HT.out rfl (by simp [Value.oneCell']) W1 HE.out ?_)
   have m0 := HM.out.cell (i := 0) rfl
   have m1 := HM.out.cell (i := 1) rfl
   exact bodyPost_ret (v := .agg #[.int .u32 ar, .slice Av n cv]) (by simp [results, Tryz.results27, go_sem, m0, m1]) rfl ⟨_, rfl, by have h := HF2.out; rwa [← Hr2.out] at h, HG.out⟩
end Go.Proofs.YtnlnmfkmbpihhaaGreatDoor
