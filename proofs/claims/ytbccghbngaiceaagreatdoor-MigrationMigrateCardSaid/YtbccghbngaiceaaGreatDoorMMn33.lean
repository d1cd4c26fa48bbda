/-
  Joined: MbM.
-/
import Derived.Test.YtbccghbngaiceaaGreatDoorMMn32
set_option linter.all false
set_option maxRecDepth 100000
set_option maxHeartbeats 64000000
namespace Go.Proofs.YtbccghbngaiceaaGreatDoor
section
open Go.RowKit
def entC (e : Ent) (va vx : Value) : List Value := [.int .i64 e.k, .string e.path, va, .string e.tgt, .int .i64 e.size, .string e.dig, vx]
theorem dtap1_any (w : World) (x e : Ent) (va vx ua ux : Value) (g : Nat) (hg : Blk w g 48 (entC e ua ux)) (hx : x.path.size ≤ 1000000) (he : e.path.size ≤ 1000000) (hT : Tab w) : Calls Tryz.prog 103 #[entV x va vx, .pointer (some ⟨g, 0, none⟩)] w fun r w' => r = .returned (.bool (decide (e.k = 4) && undB x.path e.path)) ∧ Below w.heap.size w w' := by
 obtain ⟨k, path, attrs, t, size, dig, exts⟩ := x
 rw [entV]
 dsimp only at hx ⊢
 have hK := Blk.new w 48 [.int .i64 k, .string path, va, .string t, .int .i64 size, .string dig, vx]
 change Blk (w.alloc (.cells #[.int .i64 k, .string path, va, .string t, .int .i64 size, .string dig, vx] 48)) _ _ _ at hK
 have hB := (Below.refl w.heap.size w).alloc (Nat.le_refl _) (.cells #[.int .i64 k, .string path, va, .string t, .int .i64 size, .string dig, vx] 48)
 have HU := Lib.hid (punder_gen _ path e.path hx he (hT.below hB))
 have c1 := hK.cell (i := 1) rfl
 have hG := hg.alloc (.cells #[.int .i64 k, .string path, va, .string t, .int .i64 size, .string dig, vx] 48)
 rw [entC] at hG
 have d0 := hG.cell (i := 0) rfl
 have d1 := hG.cell (i := 1) rfl
 have HB := Lib.hid hB
 clear hK hB hg hG hx he hT
 obtain ⟨q, hq⟩ : ∃ q, undB path e.path = q := ⟨_, rfl⟩
 rw [hq] at HU ⊢
 generalize e.k = K at *
 generalize e.path = D at *
 clear hq
 by_cases h4 : K = 4
 ·subst h4
  rw [decide_eq_true rfl, Bool.true_and]
  go_enter Tryz.func103, Tryz.ntmps103
  go_wp2_with fail
  refine HU.out.mono ?_
  rintro e1 w1 ⟨rfl, hb1⟩
  have HB1 := Lib.hid (HB.out.trans (hb1.mono HB.out.size))
  clear hb1
  go_wp2_with fail
  go_ret
  exact ⟨by first | rfl | exact ret_bool' (by simp), HB1.out⟩
 ·have i4 : (K == 4) = false := beq_eq_false_iff_ne.2 h4
  rw [decide_eq_false h4, Bool.false_and]
  clear h4
  go_enter Tryz.func103, Tryz.ntmps103
  go_wp2_with fail
  go_ret
  exact ⟨by first | rfl | exact ret_bool' (by simp [i4]), HB.out⟩
theorem dtap2_any (w : World) (x : Ent) (va vx : Value) (p : ByteArray) (hx : x.path.size ≤ 1000000) (hp : p.size ≤ 1000000) (hT : Tab w) : Calls Tryz.prog 110 #[entV x va vx, .string p] w fun r w' => r = .returned (.int .i64 (pcmp x.path p)) ∧ Below w.heap.size w w' := by
 obtain ⟨k, path, attrs, t, size, dig, exts⟩ := x
 rw [entV]
 dsimp only at hx ⊢
 have hK := Blk.new w 48 [.int .i64 k, .string path, va, .string t, .int .i64 size, .string dig, vx]
 change Blk (w.alloc (.cells #[.int .i64 k, .string path, va, .string t, .int .i64 size, .string dig, vx] 48)) _ _ _ at hK
 have hB := (Below.refl w.heap.size w).alloc (Nat.le_refl _) (.cells #[.int .i64 k, .string path, va, .string t, .int .i64 size, .string dig, vx] 48)
 have HU := Lib.hid (pcompare_gen _ path p hx hp (hT.below hB))
 have c1 := hK.cell (i := 1) rfl
 have HB := Lib.hid hB
 clear hK hB hx hp hT
 go_enter Tryz.func110, Tryz.ntmps110
 go_wp2_with fail
 refine HU.out.mono ?_
 rintro e1 w1 ⟨rfl, hb1⟩
 have HB1 := Lib.hid (HB.out.trans (hb1.mono HB.out.size))
 clear hb1
 go_wp2_with fail
 go_ret
 exact ⟨rfl, HB1.out⟩
theorem set_flat {n : Nat} {css : List (List Value)} (h : ∀ c ∈ css, c.length = n) {a : Nat} (ha : a < css.length) (cs : List Value) : (css.set a cs).flatten = css.flatten.take (a * n) ++ cs ++ css.flatten.drop (a * n + n) := by
 rw [List.set_eq_take_append_cons_drop, if_pos ha, List.flatten_append, List.flatten_cons, flat_take h, flat_drop h, Nat.add_mul, Nat.one_mul, List.append_assoc]
theorem OwnSeq.putE {w0 W : World} {g c a : Nat} {t : List Ent} {e : Ent} {cs : List Value} (h : OwnSeq entS 48 w0 W (.slice (some ⟨g, 0, none⟩) t.length c) t) (ha : a < t.length) (hx : entS.R w0 cs e) : OwnSeq entS 48 w0 (W.setCells g (a * 7) cs) (.slice (some ⟨g, 0, none⟩) t.length c) (t.set a e) ∧ W.there g (a * 7) 7 ∧ ∀ V, Below w0.heap.size V W → Below w0.heap.size V (W.setCells g (a * 7) cs) := by
 obtain ⟨css, hown, hbt⟩ := h
 obtain ⟨g', cap, cur, e1, hgr, hcur, hnc, hcm, hcs, hxs⟩ := own_row hown (by omega)
 cases e1
 have hcs : cur.size = c * 7 := hcs
 have hxs : cur.toList.take (t.length * 7) = css.flatten := hxs
 have hl : cs.length = 7 := entS.len hx
 have hfit : a * 7 + 7 ≤ t.length * 7 := by omega
 have hcap : t.length * 7 ≤ c * 7 := by omega
 have hsr := setCells_row g 48 cs (a * 7) cur W hcur (by rw [hl, hcs]; omega)
 refine ⟨⟨css.set a cs, ?_, hbt.set hx⟩, fun q hq => ?_, fun V hV => by rw [hsr]; exact below_setRow hV hgr _⟩
 ·rw [List.length_set, hsr]
  have hfl : css.flatten.length = t.length * 7 := by rw [flat_len hbt.lens, hbt.len]; rfl
  have hsf := set_flat (n := 7) hbt.lens (by rw [hbt.len]; exact ha) cs
  have ht1 : (cur.toList.take (a * 7)).length = a * 7 := by rw [List.length_take, Array.length_toList, hcs]; omega
  refine ⟨?_, .inr ⟨g, c, _, rfl, hgr, setRow_heap _ _ _ _ _ _ hcur, hnc, hcm, ?_, ?_⟩⟩
  ·rw [hsf, List.length_append, List.length_append, List.length_take, List.length_drop, hfl, hl]
   show _ = t.length * 7
   omega
  ·rw [List.size_toArray, List.length_append, List.length_append, ht1, hl, List.length_drop, Array.length_toList, hcs]
   show _ = c * 7
   omega
  ·rw [List.toList_toArray, hl, hsf, ← hxs]
   show List.take (t.length * 7) _ = _
   rw [List.take_append, List.take_of_length_le (by rw [List.length_append, ht1, hl]; omega), List.length_append, ht1, hl, List.take_take, Nat.min_eq_left (by omega), List.drop_take]
 ·have : a * 7 + q < cur.size := by rw [hcs]; omega
  exact ⟨by simp [World.cell?, hcur, this], by simp [World.frozen?, hcur]⟩
def ApplyR (o : Int × List Ent) (r : Ending) (w' : World) : Prop := ∃ v', r = .returned (.tuple #[v', .int .i64 o.1]) ∧ SeqAt entS w' v' o.2
theorem dtapply_any (w : World) (v : Value) (t : List Ent) (hv : SeqAt entS w v t) (e : Ent) (va vx : Value) (hva : SeqAt atrS w va e.attrs) (hvx : SeqAt extS w vx e.exts) (hz : ∀ x ∈ t, x.path.size ≤ 1000) (hl : t.length ≤ 4000) (hp : e.path.size ≤ 1000) (ht : e.tgt.size ≤ 1000) (hT : Tb w) :
  Calls Tryz.prog 55 #[v, entV e va vx] w fun r w' => ApplyR (applyT t e) r w' ∧ Below w.heap.size w w' := by
 have HCk := Lib.hid (fun W (hW : Below w.heap.size w W) => encheck_gen W e va vx (hva.below hW) (hvx.below hW) (by omega) (by omega) (hT.below hW))
 have HFi := Lib.hid (fun W (hW : Below w.heap.size w W) => dtfind_any W v t (hv.below hW) e.path)
 have HDi := Lib.hid (fun W p (hW : Below w.heap.size w W) => dtdir_any W v t (hv.below hW) p)
 have HCl := Lib.hid (fun W (hW : Below w.heap.size w W) => clnEnt_any W v t (hv.below hW) (by omega))
 have HPa := Lib.hid (fun W (hW : Below w.heap.size w W) (h1 : pathE (bs e.path) = 0) (h2 : e.path.size ≠ 0) => pparent_ok W e.path h1 h2 (hT.tab.below hW))
 have HX := Lib.hid (show entS.R w (entC e va vx) e from ⟨va, vx, rfl, hva, hvx⟩)
 have HT := Lib.hid hT
 have Hv := Lib.hid hv
 have Hz := Lib.hid hz
 have Hl := Lib.hid hl
 have Hp := Lib.hid hp
 obtain ⟨A, c, rfl, _, _⟩ := hv.slice
 obtain ⟨Aa, ca, rfl, ha1, ha2⟩ := hva.slice
 obtain ⟨Ax, cx, rfl, hx1, hx2⟩ := hvx.slice
 obtain ⟨R, hR⟩ : ∃ R, applyT t e = R := ⟨_, rfl⟩
 rw [hR]
 rw [applyT] at hR
 have HR := Lib.hid hR
 clear hv hva hvx hz hl hp ht hT hR
 have hK := Blk.new w 48 (entC e (.slice Aa e.attrs.length ca) (.slice Ax e.exts.length cx))
 rw [entC] at hK
 rw [entV] at HCk ⊢
 change Blk (w.alloc (.cells #[.int .i64 e.k, .string e.path, .slice Aa e.attrs.length ca, .string e.tgt, .int .i64 e.size, .string e.dig, .slice Ax e.exts.length cx] 48)) _ _ _ at hK
 have HB0 := Lib.hid ((Below.refl w.heap.size w).alloc (Nat.le_refl _) (.cells #[.int .i64 e.k, .string e.path, .slice Aa e.attrs.length ca, .string e.tgt, .int .i64 e.size, .string e.dig, .slice Ax e.exts.length cx] 48))
 have HK := Lib.hid hK
 clear hK
 go_enter Tryz.func55, Tryz.ntmps55
 go_upto_region 1 with fail
 generalize w.alloc (.cells #[.int .i64 e.k, .string e.path, .slice Aa e.attrs.length ca, .string e.tgt, .int .i64 e.size, .string e.dig, .slice Ax e.exts.length cx] 48) = wb at *
 have c0 := HK.out.cell (i := 0) rfl
 have c1 := HK.out.cell (i := 1) rfl
 have c2 := HK.out.cell (i := 2) rfl
 have c3 := HK.out.cell (i := 3) rfl
 have c4 := HK.out.cell (i := 4) rfl
 have c5 := HK.out.cell (i := 5) rfl
 have c6 := HK.out.cell (i := 6) rfl
 go_wp2_with fail
 refine (HCk.out _ HB0.out).mono ?_
 rintro e1 w1 ⟨rfl, hb1⟩
 have HK1 := Lib.hid (HK.out.kept hb1)
 have HB1 := Lib.hid (HB0.out.trans (hb1.mono HB0.out.size))
 clear hb1 c0 c1 c2 c3 c4 c5 c6 HB0
 by_cases hc : enE e = 0
 rotate_left
 ·have HR := Lib.hid ((if_pos hc).symm.trans HR.out)
  generalize enE e = C at *
  have g1 : (C != 0) = true := by rw [bne, beq_eq_false_iff_ne.2 hc]; rfl
  have hr : R = (C, []) := HR.out.symm
  subst hr
  clear hc HR
  go_wp2_with fail
  go_ret2
  exact ⟨⟨_, rfl, SeqAt.nil _⟩, HB1.out⟩
 have HR := Lib.hid ((if_neg (fun q => q hc)).symm.trans HR.out)
 have HOk := Lib.hid (enE_0.1 hc)
 rw [hc]
 clear hc
 have c1 := HK1.out.cell (i := 1) rfl
 go_wp2_with fail
 refine (HFi.out _ HB1.out).mono ?_
 rintro e2 w2 ⟨rfl, hb2⟩
 have HK2 := Lib.hid (HK1.out.kept hb2)
 have HB2 := Lib.hid (HB1.out.trans (hb2.mono HB1.out.size))
 clear hb2 c1 HK1 HB1
 have c0 := HK2.out.cell (i := 0) rfl
 have HIn := Lib.hid (fun W => dtin_any W e.k)
 have hk16 := HOk.out.kind
 by_cases h3 : 3 < e.k
 ·have HR := Lib.hid ((if_pos h3).symm.trans HR.out)
  rw [decide_eq_false (by omega)] at HIn
  go_wp2_with fail
  refine (HIn.out _).mono ?_
  rintro e3 w3 ⟨rfl, rfl⟩
  have c1 := HK2.out.cell (i := 1) rfl
  have HJ : Hid (JudgeE 103 #[.pointer (some ⟨w.heap.size, 0, none⟩)] (fun x => decide (e.k = 4) && undB x.path e.path) t w2) := Lib.hid (fun W x Ba Bx da dx hW hx => dtap1_any W x e _ _ _ _ w.heap.size (HK2.out.kept hW) (by have := Hz.out x hx; omega) (by have := Hp.out; omega) (HT.out.tab.below (HB2.out.trans (hW.mono HB2.out.size))))
  have HDl := Lib.hid (fun W v' (hO : OwnSeq entS 48 w2 W v' t) (hW : Below w2.heap.size w2 W) => delEnt_any w2 W v' t hO hW (by have := Hl.out; omega) 103 #[.pointer (some ⟨w.heap.size, 0, none⟩)] (enters_of Tryz.func103 (by kernel_rfl) rfl) (fun x => decide (e.k = 4) && undB x.path e.path) HJ.out)
  generalize hFl : t.filter (fun x => !(decide (e.k = 4) && undB x.path e.path)) = FL at *
  by_cases h0 : idxT t e.path = none ∧ e.path.size ≠ 0
  ·have e0 : e.path.toList.isEmpty = false := isEmptyV h0.2
   have hr : R = (9, []) := by rw [← HR.out, if_pos h0]
   rw [h0.1, show idxI none = -1 from rfl]
   subst hr
   clear h0 HR h3
   go_wp2_with fail
   go_ret2
   exact ⟨⟨_, rfl, SeqAt.nil _⟩, HB2.out⟩
  ·have hr : R = (0, FL) := by rw [← HR.out, if_neg h0]
   subst hr
   clear HR h3 HIn
   have hcase : (∃ a : Nat, idxT t e.path = some a) ∨ (idxT t e.path = none ∧ e.path.toList.isEmpty = true) := by
    cases hI : idxT t e.path with
    | some a => exact .inl ⟨a, rfl⟩
    | none =>
     refine .inr ⟨rfl, ?_⟩
     have : e.path.size = 0 := Decidable.byContradiction fun q => h0 ⟨hI, q⟩
     rw [show e.path = ⟨#[]⟩ by apply ByteArray.ext; exact Array.eq_empty_of_size_eq_zero this]
     exact isEmptyV0
   clear h0
   rcases hcase with ⟨a, hI⟩ | ⟨hI, e0⟩
   ·rw [hI, show idxI (some a) = (a : Int) from rfl]
    have ha0 : ¬ (a : Int) < 0 := by omega
    clear hI
    go_wp2_with fail
    refine (HCl.out _ HB2.out).mono ?_
    rintro e4 w4 ⟨v4, rfl, hO4, hb4⟩
    have HO4 := Lib.hid hO4
    have HB4 := Lib.hid hb4
    obtain ⟨A4, c4, rfl, _, _⟩ := (hO4.at hb4).slice
    clear hO4 hb4 c0 c1
    go_wp2_with fail
    refine (HDl.out _ _ HO4.out HB4.out).mono ?_
    rintro e5 w5 ⟨v5, rfl, hS5, hb5⟩
    have HS5 := Lib.hid hS5
    have HB5 := Lib.hid (HB2.out.trans (hb5.mono HB2.out.size))
    clear hS5 hb5
    go_wp2_with fail
    go_ret2
    exact ⟨⟨v5, rfl, HS5.out⟩, HB5.out⟩
   ·rw [hI, show idxI none = -1 from rfl]
    clear hI
    go_wp2_with fail
    refine (HCl.out _ HB2.out).mono ?_
    rintro e4 w4 ⟨v4, rfl, hO4, hb4⟩
    have HO4 := Lib.hid hO4
    have HB4 := Lib.hid hb4
    obtain ⟨A4, c4, rfl, _, _⟩ := (hO4.at hb4).slice
    clear hO4 hb4 c0 c1
    go_wp2_with fail
    refine (HDl.out _ _ HO4.out HB4.out).mono ?_
    rintro e5 w5 ⟨v5, rfl, hS5, hb5⟩
    have HS5 := Lib.hid hS5
    have HB5 := Lib.hid (HB2.out.trans (hb5.mono HB2.out.size))
    clear hS5 hb5
    go_wp2_with fail
    go_ret2
    exact ⟨⟨v5, rfl, HS5.out⟩, HB5.out⟩
 ·have HR := Lib.hid ((if_neg h3).symm.trans HR.out)
  have h0 : e.path.size ≠ 0 := fun q => by have := HOk.out.named q; omega
  have HPr := Lib.hid (HPa.out w2 HB2.out HOk.out.path h0)
  rw [decide_eq_true (by omega)] at HIn
  go_wp2_with fail
  refine (HIn.out _).mono ?_
  rintro e3 w3 ⟨rfl, rfl⟩
  have c1 := HK2.out.cell (i := 1) rfl
  go_wp2_with fail
  refine HPr.out.mono ?_
  rintro e4 w4 ⟨rfl, hb4⟩
  have HK4 := Lib.hid (HK2.out.kept hb4)
  have HB4 := Lib.hid (HB2.out.trans (hb4.mono HB2.out.size))
  clear hb4 c0 c1 HK2 HB2 HPr HIn
  go_wp2_with fail
  refine (HDi.out _ _ HB4.out).mono ?_
  rintro e5 w5 ⟨rfl, hb5⟩
  have HK5 := Lib.hid (HK4.out.kept hb5)
  have HB5 := Lib.hid (HB4.out.trans (hb5.mono HB4.out.size))
  clear hb5 HK4 HB4
  by_cases hd : dirE t (parB e.path) = 0
  rotate_left
  ·have HR := Lib.hid ((if_pos hd).symm.trans HR.out)
   generalize dirE t (parB e.path) = C at *
   have g1 : (C != 0) = true := by rw [bne, beq_eq_false_iff_ne.2 hd]; rfl
   have hr : R = (C, []) := HR.out.symm
   subst hr
   clear hd HR
   go_wp2_with fail
   go_ret2
   exact ⟨⟨_, rfl, SeqAt.nil _⟩, HB5.out⟩
  have HR := Lib.hid ((if_neg (fun q => q hd)).symm.trans HR.out)
  rw [hd]
  clear hd
  go_wp2_with fail
  refine (HCl.out _ HB5.out).mono ?_
  rintro e6 w6 ⟨v6, rfl, hO6, hb6⟩
  have HO6 := Lib.hid hO6
  have HBo := Lib.hid hb6
  have HK6 := Lib.hid (HK5.out.kept hb6)
  have HB6 := Lib.hid (HB5.out.trans (hb6.mono HB5.out.size))
  obtain ⟨A6, c6, rfl, _, _⟩ := (hO6.at hb6).slice
  clear hO6 hb6
  have c0 := HK6.out.cell (i := 0) rfl
  have c1 := HK6.out.cell (i := 1) rfl
  have c2 := HK6.out.cell (i := 2) rfl
  have c3 := HK6.out.cell (i := 3) rfl
  have c4 := HK6.out.cell (i := 4) rfl
  have c5 := HK6.out.cell (i := 5) rfl
  have c6' := HK6.out.cell (i := 6) rfl
  cases hI : idxT t e.path with
  | some a =>
   obtain ⟨x, hx, hxp⟩ := idxP_at hI
   have hal : a < t.length := (List.getElem?_eq_some_iff.1 hx).1
   have halI : (a : Int) < (t.length : Int) := by omega
   have ha0 : (0 : Int) ≤ (a : Int) := by omega
   have HRx : Hid ((if decide (x.k = 2) = decide (e.k = 2) then (0, t.set a e) else (8, [])) = R) := Lib.hid (by rw [← HR.out, hI]; simp only [hx])
   obtain ⟨css, hown, hbt⟩ := HO6.out
   obtain ⟨g6, _, cur6, e8, _, _, _, _, _, _⟩ := own_row hown (by omega)
   cases e8
   have HO6' : Hid (OwnSeq entS 48 w5 w6 (.slice (some ⟨g6, 0, none⟩) t.length c6) t) := Lib.hid HO6.out
   have hXc : entS.R w5 [.int .i64 e.k, .string e.path, .slice Aa e.attrs.length ca, .string e.tgt, .int .i64 e.size, .string e.dig, .slice Ax e.exts.length cx] e := entS.keep HX.out HB5.out
   have HXc := Lib.hid hXc
   obtain ⟨_, _, e9, _, _, h4⟩ := Hv.out.below HB6.out
   cases e9
   obtain ⟨b, o, cs, rfl, ⟨va, vx, rfl, ra, rx⟩, hc⟩ := h4 a x hx
   have e0 : w6.cell? ⟨b, o + a * 7, none⟩ = some (.int .i64 x.k) := hc 0 _ rfl
   rw [show idxI (some a) = (a : Int) from rfl]
   clear hc h4 hx hxp ra rx hown hbt hXc HR hI
   have hcase : (R = (0, t.set a e) ∧ (((x.k == 2) = true ∧ (e.k == 2) = true) ∨ ((x.k == 2) = false ∧ (e.k == 2) = false))) ∨ (R = (8, []) ∧ (((x.k == 2) = true ∧ (e.k == 2) = false) ∨ ((x.k == 2) = false ∧ (e.k == 2) = true))) := by
    rw [← HRx.out]
    by_cases y1 : x.k = 2
    ·by_cases y2 : e.k = 2
     ·exact .inl ⟨by rw [decide_eq_true y1, decide_eq_true y2, if_pos rfl], .inl ⟨by rw [y1]; rfl, by rw [y2]; rfl⟩⟩
     ·exact .inr ⟨by rw [decide_eq_true y1, decide_eq_false y2, if_neg (by decide)], .inl ⟨by rw [y1]; rfl, beq_eq_false_iff_ne.2 y2⟩⟩
    ·by_cases y2 : e.k = 2
     ·exact .inr ⟨by rw [decide_eq_false y1, decide_eq_true y2, if_neg (by decide)], .inr ⟨beq_eq_false_iff_ne.2 y1, by rw [y2]; rfl⟩⟩
     ·exact .inl ⟨by rw [decide_eq_false y1, decide_eq_false y2, if_pos rfl], .inr ⟨beq_eq_false_iff_ne.2 y1, beq_eq_false_iff_ne.2 y2⟩⟩
   clear HRx
   rcases hcase with ⟨rfl, hf⟩ | ⟨rfl, hf⟩
   ·rcases hf with ⟨y1, y2⟩ | ⟨y1, y2⟩
    all_goals
     go_upto_region 16 with fail
     go_quiet (fail)
     have hO7 := HO6'.out.below (blwN (Below.refl _ _) nq)
     have hB7 := blwN HBo.out nq
     have hK7 := HK6.out.kept (blwN (Below.refl _ _) nq)
     have hBq := blwN HB6.out nq
     generalize w6.drewN nq = wq at *
     obtain ⟨hp1, hp2, hp3⟩ := hO7.putE hal HXc.out
     have hp3 := hp3 _ hB7
     obtain ⟨W7, hW7⟩ : ∃ W7, wq.setCells g6 (a * 7) [.int .i64 e.k, .string e.path, .slice Aa e.attrs.length ca, .string e.tgt, .int .i64 e.size, .string e.dig, .slice Ax e.exts.length cx] = W7 := ⟨_, rfl⟩
     rw [hW7] at hp1 hp3
     have HP1 := Lib.hid hp1
     have HP2 := Lib.hid hp2
     have HB7 := Lib.hid (HB5.out.trans (hp3.mono HB5.out.size))
     have HP3 := Lib.hid hp3
     have HW7 := Lib.hid hW7
     clear c0 c1 c2 c3 c4 c5 c6' e0
     have c0 := hK7.cell (i := 0) rfl
     have c1 := hK7.cell (i := 1) rfl
     have c2 := hK7.cell (i := 2) rfl
     have c3 := hK7.cell (i := 3) rfl
     have c4 := hK7.cell (i := 4) rfl
     have c5 := hK7.cell (i := 5) rfl
     have c6' := hK7.cell (i := 6) rfl
     clear hO7 hB7 hK7 hBq hp1 hp2 hp3 hW7
     go_wp2_with (refine ent_store rfl (.tmp 67) (.tmp 66) rfl g6 (a * 7) #[.int .i64 e.k, .string e.path, .slice Aa e.attrs.length ca, .string e.tgt, .int .i64 e.size, .string e.dig, .slice Ax e.exts.length cx] rfl rfl HP2.out rfl (by simp [Value.oneCell']) W7 HW7.out ?_)
     go_ret2
     exact ⟨⟨_, rfl, HP1.out.at HP3.out⟩, HB7.out⟩
   ·rcases hf with ⟨y1, y2⟩ | ⟨y1, y2⟩
    all_goals
     go_upto_region 16 with fail
     go_quiet (fail)
     go_wp2_with fail
     go_ret2
     exact ⟨⟨_, rfl, SeqAt.nil _⟩, by first | exact HB6.out | exact blwN HB6.out _⟩
  | none =>
   have hr : R = (0, insAt t (placeT t e.path) e) := by
    rw [← HR.out, hI]
    simp only
    rw [if_neg (by have := Hl.out; omega)]
   subst hr
   have i5 : ¬ (5000 : Int) ≤ (t.length : Int) := by have := Hl.out; omega
   have HBs := Lib.hid (bsEnt_any w6 _ t (HO6.out.at HBo.out) (by have := Hl.out; omega) e.path 110 #[] (enters_of Tryz.func110 (by kernel_rfl) rfl) (fun x => pcmp x.path e.path) (fun W x Ba Bx da dx hW hx => dtap2_any W x _ _ e.path (by have := Hz.out x hx; omega) (by have := Hp.out; omega) (HT.out.tab.below (HB6.out.trans (hW.mono HB6.out.size)))))
   rw [← placeT] at HBs
   have HPl := Lib.hid (placeT_le t e.path)
   have hplI : ((placeT t e.path : Nat) : Int) ≤ (t.length : Int) := by have := placeT_le t e.path; omega
   obtain ⟨P, hP⟩ : ∃ P, placeT t e.path = P := ⟨_, rfl⟩
   rw [hP] at HBs HPl hplI
   have HPe := Lib.hid hP
   clear hP
   have hXc : entS.R w5 [.int .i64 e.k, .string e.path, .slice Aa e.attrs.length ca, .string e.tgt, .int .i64 e.size, .string e.dig, .slice Ax e.exts.length cx] e := entS.keep HX.out HB5.out
   have HXc := Lib.hid hXc
   rw [show idxI none = -1 from rfl]
   clear hXc hI HR
   go_wp2_with fail
   refine HBs.out.mono ?_
   rintro e7 w7 ⟨⟨bq, rfl⟩, hb7⟩
   have HK7 := Lib.hid (HK6.out.kept hb7)
   have HO7 := Lib.hid (HO6.out.below hb7)
   have HBo7 := Lib.hid (HBo.out.trans (hb7.mono HBo.out.size))
   have hB8 := HBo7.out.alloc HBo7.out.size (.cells #[.int .i64 e.k, .string e.path, .slice Aa e.attrs.length ca, .string e.tgt, .int .i64 e.size, .string e.dig, .slice Ax e.exts.length cx] 48)
   have hO8 := HO7.out.below ((Below.refl w7.heap.size w7).alloc (Nat.le_refl _) (.cells #[.int .i64 e.k, .string e.path, .slice Aa e.attrs.length ca, .string e.tgt, .int .i64 e.size, .string e.dig, .slice Ax e.exts.length cx] 48))
   have hK8 := Blk.new w7 48 [.int .i64 e.k, .string e.path, .slice Aa e.attrs.length ca, .string e.tgt, .int .i64 e.size, .string e.dig, .slice Ax e.exts.length cx]
   have HIn := Lib.hid (insEnt_any w5 _ _ t hO8 hB8 (by have := Hl.out; omega) P HPl.out w7.heap.size _ e HXc.out hK8 (fun q => Nat.lt_irrefl _ (HO7.out.lt q)))
   clear hb7 hB8 hO8 hK8 c0 c1 c2 c3 c4 c5 c6'
   have c0 := HK7.out.cell (i := 0) rfl
   have c1 := HK7.out.cell (i := 1) rfl
   have c2 := HK7.out.cell (i := 2) rfl
   have c3 := HK7.out.cell (i := 3) rfl
   have c4 := HK7.out.cell (i := 4) rfl
   have c5 := HK7.out.cell (i := 5) rfl
   have c6' := HK7.out.cell (i := 6) rfl
   go_wp2_with fail
   refine HIn.out.mono ?_
   rintro e9 w9 ⟨v9, rfl, hO9, hb9⟩
   have HS9 := Lib.hid (hO9.at hb9)
   have HB9 := Lib.hid (HB5.out.trans (hb9.mono HB5.out.size))
   clear hO9 hb9
   go_wp2_with fail
   go_ret2
   exact ⟨⟨v9, rfl, by show SeqAt entS w9 v9 (insAt t (placeT t e.path) e); rw [HPe.out]; exact HS9.out⟩, HB9.out⟩
end
end Go.Proofs.YtbccghbngaiceaaGreatDoor
