/-
  Joined: MgD.
-/
import Derived.Test.YtbccghbngaiceaaGreatDoorMMn20
import Derived.Test.YtbccghbngaiceaaGreatDoorMMn37
set_option linter.all false
set_option maxRecDepth 100000
set_option maxHeartbeats 64000000
namespace Go.Proofs.YtbccghbngaiceaaGreatDoor
section
open Go.RowKit
def RetTX (w' : World) (R : Int × List Ent) (r : Ending) : Prop := ∃ v, r = .returned (.tuple #[v, .int .i64 R.1]) ∧ SeqAt entS w' v R.2
theorem apply37_ex (w : World) (v va vx : Value) (l : List Ent) (e : Ent) (hv : SeqAt entS w v l) (hva : SeqAt atrS w va e.attrs) (hvx : SeqAt extS w vx e.exts) (hl : l.length ≤ 1000) (hz : ∀ x ∈ l, x.path.size ≤ 1000000) (hp : e.path.size ≤ 1000000) (ht : e.tgt.size ≤ 1000000) (ha : ∀ a ∈ e.attrs, a.k.size ≤ 1000000) (hx : e.exts.length ≤ 100000) :
  Calls Tryz.prog 65 #[v, entV e va vx] w fun r w' => RetTX w' (applyTR l e) r ∧ Below w.heap.size w w' := by
 obtain ⟨R, hR⟩ : ∃ R, applyTR l e = R := ⟨_, rfl⟩
 rw [hR]
 have HR := Lib.hid hR
 clear hR
 have HPo : Hid (enE e = 0 → pathE (bs e.path) = 0 ∧ 1 ≤ e.k ∧ e.k ≤ 6) := Lib.hid (fun h => ⟨(enE_0.1 h).path, (enE_0.1 h).kind⟩)
 have HY1 : Hid (enE e ≠ 0 → R = (enE e, [])) := Lib.hid (fun h => by rw [← HR.out, applyTR, if_pos h])
 have HYn : Hid (enE e = 0 → R = applyTS l e) := Lib.hid (fun h => by rw [← HR.out, applyTR, if_neg (fun c => c h)])
 clear HR
 have HCk := Lib.hid (fun (W : World) (h : Below w.heap.size w W) => check36_ex W e va vx (hva.below h) (hvx.below h) hp ht ha hx)
 have Hva := Lib.hid hva
 have Hvx := Lib.hid hvx
 have Hv := Lib.hid hv
 have Hz := Lib.hid hz
 have Hl := Lib.hid hl
 have HHp := Lib.hid hp
 obtain ⟨k, path, attrs, tgt, size, dig, exts⟩ := e
 obtain ⟨Aa, ca, rfl, _, _⟩ := hva.slice
 obtain ⟨Ax, cx, rfl, _, _⟩ := hvx.slice
 obtain ⟨A, c, rfl, h1, h2⟩ := hv.slice
 rw [entV] at HCk ⊢
 dsimp only at HCk HHp HPo ⊢
 generalize enE ⟨k, path, attrs, tgt, size, dig, exts⟩ = n1 at *
 generalize attrs.length = na at *
 generalize exts.length = nx at *
 have HG := Lib.hid (fun (W : World) (h : SeqAt entS W (.slice A l.length c) l) => get37_ex W (.slice A l.length c) l h path)
 have hK := Blk.new w 48 [.int .i64 k, .string path, .slice Aa na ca, .string tgt, .int .i64 size, .string dig, .slice Ax nx cx]
 change Blk (w.alloc (.cells #[.int .i64 k, .string path, .slice Aa na ca, .string tgt, .int .i64 size, .string dig, .slice Ax nx cx] 48)) _ _ _ at hK
 have HK := Lib.hid hK
 have HB0 := Lib.hid ((Below.refl w.heap.size w).alloc (Nat.le_refl _) (.cells #[.int .i64 k, .string path, .slice Aa na ca, .string tgt, .int .i64 size, .string dig, .slice Ax nx cx] 48))
 clear hK hv hva hvx hz hl hp ht ha hx
 go_enter Tryz.func65, Tryz.ntmps65
 go_upto_region 1 with fail
 generalize w.alloc (.cells #[.int .i64 k, .string path, .slice Aa na ca, .string tgt, .int .i64 size, .string dig, .slice Ax nx cx] 48) = wa at *
 have c0 := HK.out.cell (i := 0) rfl
 have c1 := HK.out.cell (i := 1) rfl
 have c2 := HK.out.cell (i := 2) rfl
 have c3 := HK.out.cell (i := 3) rfl
 have c4 := HK.out.cell (i := 4) rfl
 have c5 := HK.out.cell (i := 5) rfl
 have c6 := HK.out.cell (i := 6) rfl
 go_wp2_with fail
 refine (HCk.out _ HB0.out).mono ?_
 rintro e1 w1 ⟨rfl, hb1⟩
 have HB1 := Lib.hid (HB0.out.trans (hb1.mono HB0.out.size))
 have HK1 := Lib.hid (HK.out.kept hb1)
 clear hb1 c0 c1 c2 c3 c4 c5 c6 HK HB0 HCk
 by_cases hn1 : n1 = 0
 ·subst hn1
  have HPok := Lib.hid (HPo.out rfl).1
  have HKr := Lib.hid (HPo.out rfl).2
  have HYs := Lib.hid (HYn.out rfl)
  clear HPo HY1 HYn
  have c1 := HK1.out.cell (i := 1) rfl
  go_upto_region 4 with fail
  go_wp2_with fail
  refine (HG.out _ (Hv.out.below HB1.out)).mono ?_
  rintro e2 w2 ⟨⟨ok_, osz, op, ot, od, oA, oX, ona, onx, oca, ocx, rfl, hkk⟩, hb2⟩
  have HKk := Lib.hid hkk
  clear hkk
  have HY2 : Hid (3 < k → (getT l path).isSome = false → path.toList.isEmpty = false → R = (9, [])) := Lib.hid (fun h1 h2 h3 => HYs.out.trans (applyTS_none (e := (⟨k, path, attrs, tgt, size, dig, exts⟩ : Ent)) h1 h2 h3))
  have HY3 : Hid (3 < k → ((getT l path).isSome = true ∨ path.toList.isEmpty = true) → R = (0, FT k path l)) := Lib.hid (fun h1 h2 => HYs.out.trans (applyTS_filt (e := (⟨k, path, attrs, tgt, size, dig, exts⟩ : Ent)) h1 h2))
  have HY4 : Hid (¬ 3 < k → dirE l (parB path) ≠ 0 → R = (dirE l (parB path), [])) := Lib.hid (fun h1 h2 => HYs.out.trans (applyTS_dir (e := (⟨k, path, attrs, tgt, size, dig, exts⟩ : Ent)) h1 h2))
  have HY5 : Hid (¬ 3 < k → dirE l (parB path) = 0 → (getT l path).isSome = true → ((ok_ == 2) = true ∧ (k == 2) = false ∨ (ok_ == 2) = false ∧ (k == 2) = true) → R = (8, [])) := Lib.hid (fun h1 h2 h3 h4 => HYs.out.trans (applyTS_kind (e := (⟨k, path, attrs, tgt, size, dig, exts⟩ : Ent)) h1 h2 HKk.out h3 h4))
  have HY6 : Hid (¬ 3 < k → dirE l (parB path) = 0 → ((getT l path).isSome = false ∨ ((getT l path).isSome = true ∧ (ok_ == 2) = true ∧ (k == 2) = true) ∨ ((getT l path).isSome = true ∧ (ok_ == 2) = false ∧ (k == 2) = false)) → R = (0, insK (⟨k, path, attrs, tgt, size, dig, exts⟩ : Ent) false l)) := Lib.hid (fun h1 h2 h3 => HYs.out.trans (applyTS_ins (e := (⟨k, path, attrs, tgt, size, dig, exts⟩ : Ent)) h1 h2 HKk.out h3 (by have := Hl.out; omega)))
  clear HYs HKk
  obtain ⟨bt, hbt⟩ : ∃ b, (getT l path).isSome = b := ⟨_, rfl⟩
  rw [hbt] at HY2 HY3 HY5 HY6 ⊢
  clear hbt
  have HB2 := Lib.hid (HB1.out.trans (hb2.mono HB1.out.size))
  have HK2 := Lib.hid (HK1.out.kept hb2)
  clear hb2 c1 HK1 HB1
  have hF := Blk.new w2 48 [.int .i64 ok_, .string op, .slice oA ona oca, .string ot, .int .i64 osz, .string od, .slice oX onx ocx]
  change Blk (w2.alloc (.cells #[.int .i64 ok_, .string op, .slice oA ona oca, .string ot, .int .i64 osz, .string od, .slice oX onx ocx] 48)) _ _ _ at hF
  have HF := Lib.hid hF
  have HB3 := Lib.hid (HB2.out.alloc HB2.out.size (.cells #[.int .i64 ok_, .string op, .slice oA ona oca, .string ot, .int .i64 osz, .string od, .slice oX onx ocx] 48))
  have HK3 := Lib.hid (HK2.out.alloc (.cells #[.int .i64 ok_, .string op, .slice oA ona oca, .string ot, .int .i64 osz, .string od, .slice oX onx ocx] 48))
  clear hF HB2 HK2
  go_upto_region 5 with fail
  generalize w2.alloc (.cells #[.int .i64 ok_, .string op, .slice oA ona oca, .string ot, .int .i64 osz, .string od, .slice oX onx ocx] 48) = wb at *
  generalize w2.heap.size = gb at *
  have HN := Lib.hid (OwnSeq.new (ρ := entS) (t := 48) wb)
  have Hvb := Lib.hid (Hv.out.below HB3.out)
  have d0 := HK3.out.cell (i := 0) rfl
  have d1 := HK3.out.cell (i := 1) rfl
  have x0 := HF.out.cell (i := 0) rfl
  go_upto_region 6 with fail
  have HNB : Hid (Below wb.heap.size wb (wb.alloc (.cells #[] 48))) := Lib.hid ((Below.refl _ _).alloc (Nat.le_refl _) _)
  have HK4 := Lib.hid (HK3.out.alloc (.cells #[] 48))
  have HF4 := Lib.hid (HF.out.alloc (.cells #[] 48))
  generalize wb.alloc (.cells #[] 48) = wn at *
  generalize (Value.slice (some ⟨wb.heap.size, 0, none⟩) 0 0) = vn at *
  clear d0 d1 x0
  have d0 := HK4.out.cell (i := 0) rfl
  have d1 := HK4.out.cell (i := 1) rfl
  have x0 := HF4.out.cell (i := 0) rfl
  have HSrc : Hid (∀ (xk xsz : Int) (xp xt xd : ByteArray) (xA xX : Option Addr) (xna xca xnx xcx : Nat) (xat : List Atr) (xex : List Ext), xat.length = xna → xex.length = xnx → SeqAt atrS wb (.slice xA xna xca) xat → SeqAt extS wb (.slice xX xnx xcx) xex → entS.R wb [.int .i64 xk, .string xp, .slice xA xna xca, .string xt, .int .i64 xsz, .string xd, .slice xX xnx xcx] ⟨xk, xp, xat, xt, xsz, xd, xex⟩) := Lib.hid (fun xk xsz xp xt xd xA xX xna xca xnx xcx xat xex _ _ h3 h4 => ⟨_, _, rfl, h3, h4⟩)
  have hk : k = 4 ∨ (k = 5 ∨ k = 6) ∨ (k ≠ 4 ∧ k ≠ 5 ∧ k ≠ 6) := by omega
  have he : path.size = 0 ∨ path.size ≠ 0 := by omega
  have HEr : Hid (∀ (W : World) (n : Int), Below wb.heap.size wb W → R = (n, []) → RetTX W R (.returned (.tuple #[.slice none 0 0, .int .i64 n])) ∧ Below w.heap.size w W) := Lib.hid (fun W n h e => ⟨by rw [e]; exact ⟨_, rfl, SeqAt.nil _⟩, HB3.out.trans (h.mono HB3.out.size)⟩)
  have HUn := Lib.hid (fun (W : World) (q : ByteArray) (hq : q.size ≤ 1000000) => under31_ex W q path hq HHp.out)
  rcases hk with rfl | hk | ⟨k4, k5, k6⟩
  ·have hgo : (bt = false ∧ path.toList.isEmpty = false) ∨ (bt = true ∨ (bt = false ∧ path.toList.isEmpty = true)) := by
    cases bt
    ·cases path.toList.isEmpty
     ·exact .inl ⟨rfl, rfl⟩
     ·exact .inr (.inr ⟨rfl, rfl⟩)
    ·exact .inr (.inl rfl)
   rcases hgo with ⟨rfl, hne⟩ | hgo
   ·have HE := Lib.hid (HY2.out (by decide) rfl hne)
    go_wp2_with fail
    go_ret2
    exact HEr.out _ _ HNB.out HE.out
   ·have HR3 := Lib.hid (HY3.out (by decide) (hgo.imp id (·.2)))
    rcases hgo with rfl | ⟨rfl, hne⟩
    all_goals
     go_wp2
     go_loopw [9, 46] (fun y x wr => ∃ (i : Nat) (m : List Ent), i ≤ l.length ∧ x = .int .i64 (i : Int) ∧ m.length ≤ i ∧ m = FT 4 path (l.take i) ∧ OwnSeq entS 48 wb wr y m ∧ Below wb.heap.size wb wr) (fun _ x _ => l.length - (intOf x).toNat)
     case atStart => exact ⟨0, [], by omega, rfl, by simp, rfl, HN.out, HNB.out⟩
     case round =>
      obtain ⟨i, m, hi, rfl, hm, hall, ho, hB⟩ := hrel
      have HBr := Lib.hid hB
      have Hall := Lib.hid hall
      have HO := Lib.hid ho
      have Hl1 : Hid (m.length + 1 ≤ 100000000) := Lib.hid (by have := Hl.out; omega)
      clear hB hall ho
      by_cases h : i < l.length
      ·have hiI : (i : Int) < l.length := by omega
       obtain ⟨x, hx⟩ : ∃ x, l[i]? = some x := ⟨_, List.getElem?_eq_getElem h⟩
       have Hxm := Lib.hid (List.mem_of_getElem? hx)
       have Hxz := Lib.hid (Hz.out x (List.mem_of_getElem? hx))
       have HD : Hid (FT 4 path (l.take (i + 1)) = FT 4 path (l.take i) ++ (if (!(decide ((4 : Int) = 4) && undB x.path path)) = true then [x] else [])) := Lib.hid (by rw [List.take_add_one, hx]; exact FT_snoc)
       obtain ⟨_, _, e9, _, _, h4⟩ := Hvb.out
       cases e9
       obtain ⟨b, o, cs, rfl, ⟨yva, yvx, rfl, ra, rx⟩, hc⟩ := h4 i x hx
       have Hra := Lib.hid ra
       have Hrx := Lib.hid rx
       obtain ⟨xA, xca, rfl, _, _⟩ := ra.slice
       obtain ⟨xX, xcx, rfl, _, _⟩ := rx.slice
       obtain ⟨xk, xp, xat, xt, xsz, xd, xex⟩ := x
       dsimp only at hc Hra Hrx Hxz HD
       generalize hxna : xat.length = xna at *
       generalize hxnx : xex.length = xnx at *
       have Hx1 := Lib.hid hxna
       have Hx2 := Lib.hid hxnx
       have e0 := cell_below HBr.out (show wb.cell? ⟨b, o + i * 7, none⟩ = some (.int .i64 xk) from hc 0 _ rfl)
       have e1 := cell_below HBr.out (show wb.cell? ⟨b, o + i * 7 + 1, none⟩ = some (.string xp) from hc 1 _ rfl)
       have e2 := cell_below HBr.out (show wb.cell? ⟨b, o + i * 7 + 2, none⟩ = some (.slice xA xna xca) from hc 2 _ rfl)
       have e3 := cell_below HBr.out (show wb.cell? ⟨b, o + i * 7 + 3, none⟩ = some (.string xt) from hc 3 _ rfl)
       have e4 := cell_below HBr.out (show wb.cell? ⟨b, o + i * 7 + 4, none⟩ = some (.int .i64 xsz) from hc 4 _ rfl)
       have e5 := cell_below HBr.out (show wb.cell? ⟨b, o + i * 7 + 5, none⟩ = some (.string xd) from hc 5 _ rfl)
       have e6 := cell_below HBr.out (show wb.cell? ⟨b, o + i * 7 + 6, none⟩ = some (.slice xX xnx xcx) from hc 6 _ rfl)
       clear hc h4 hx ra rx hxna hxnx
       have HXf : Hid (Blk (wr.alloc (.cells #[.int .i64 xk, .string xp, .slice xA xna xca, .string xt, .int .i64 xsz, .string xd, .slice xX xnx xcx] 48)) wr.heap.size 48 [.int .i64 xk, .string xp, .slice xA xna xca, .string xt, .int .i64 xsz, .string xd, .slice xX xnx xcx]) := Lib.hid (Blk.new _ _ _)
       have HBz := Lib.hid (HBr.out.alloc HBr.out.size (.cells #[.int .i64 xk, .string xp, .slice xA xna xca, .string xt, .int .i64 xsz, .string xd, .slice xX xnx xcx] 48))
       have HOz := Lib.hid (HO.out.alloc (.cells #[.int .i64 xk, .string xp, .slice xA xna xca, .string xt, .int .i64 xsz, .string xd, .slice xX xnx xcx] 48))
       go_upto_region 15 with fail
       clear e0 e1 e2 e3 e4 e5 e6
       generalize wr.alloc (.cells #[.int .i64 xk, .string xp, .slice xA xna xca, .string xt, .int .i64 xsz, .string xd, .slice xX xnx xcx] 48) = wz at *
       generalize wr.heap.size = gx at *
       have HKz := Lib.hid (HK3.out.kept HBz.out)
       have d0 := HKz.out.cell (i := 0) rfl
       have d1 := HKz.out.cell (i := 1) rfl
       have x0 := HXf.out.cell (i := 0) rfl
       have x1 := HXf.out.cell (i := 1) rfl
       have x2 := HXf.out.cell (i := 2) rfl
       have x3 := HXf.out.cell (i := 3) rfl
       have x4 := HXf.out.cell (i := 4) rfl
       have x5 := HXf.out.cell (i := 5) rfl
       have x6 := HXf.out.cell (i := 6) rfl
       go_wp2_with fail
       refine (HUn.out _ xp Hxz.out).mono ?_
       rintro e5 w5 ⟨rfl, hb5⟩
       obtain ⟨r, hr⟩ : ∃ r, undB xp path = r := ⟨_, rfl⟩
       rw [hr] at HD ⊢
       clear hr
       have HOy := Lib.hid (HOz.out.below hb5)
       have HBy := Lib.hid (HBz.out.trans (hb5.mono HBz.out.size))
       have HXg := Lib.hid (HXf.out.kept hb5)
       clear hb5 x0 x1 x2 x3 x4 x5 x6 d0 d1
       have x0 := HXg.out.cell (i := 0) rfl
       have x1 := HXg.out.cell (i := 1) rfl
       have x2 := HXg.out.cell (i := 2) rfl
       have x3 := HXg.out.cell (i := 3) rfl
       have x4 := HXg.out.cell (i := 4) rfl
       have x5 := HXg.out.cell (i := 5) rfl
       have x6 := HXg.out.cell (i := 6) rfl
       cases r with
       | true =>
        have HE : Hid (m = FT 4 path (l.take (i + 1))) := Lib.hid (by rw [HD.out, if_neg (by decide), List.append_nil, Hall.out])
        go_wp2_with fail
        go_roundw
        case rel => exact ⟨i + 1, m, by omega, by go_num, by omega, HE.out, HOy.out, HBy.out⟩
        case measure => simp [intOf]; omega
       | false =>
        have HE : Hid (m ++ [(⟨xk, xp, xat, xt, xsz, xd, xex⟩ : Ent)] = FT 4 path (l.take (i + 1))) := Lib.hid (by rw [HD.out, Hall.out, if_pos (by decide)])
        go_wp2_with (at_builtin; refine append_seq (ρ := entS) (w0 := wb) Tryz.elemEnt rfl _ _ rfl rfl (HOy.out.alloc _) rfl (src1 (ρ := entS) [.int .i64 xk, .string xp, .slice xA xna xca, .string xt, .int .i64 xsz, .string xd, .slice xX xnx xcx] (⟨xk, xp, xat, xt, xsz, xd, xex⟩ : Ent) ⟨_, _, rfl, Hra.out, Hrx.out⟩ rfl) Hl1.out (HBy.out.alloc HBy.out.size _) ?_; intro va1 wa1 hob _ hbb; have KU1 := Lib.hid hob; have KB1 := Lib.hid hbb; clear hob hbb)
        go_roundw
        case rel => exact ⟨i + 1, _, by omega, by go_num, by simp; omega, HE.out, KU1.out, KB1.out⟩
        case measure => simp [intOf]; omega
      ·have hiI : ¬ (i : Int) < l.length := by omega
       have HE : Hid (R = (0, m)) := Lib.hid (by rw [HR3.out, Hall.out, List.take_of_length_le (by omega)])
       go_wp2_with fail
       go_ret2
       exact ⟨by rw [HE.out]; exact ⟨_, rfl, HO.out.at HBr.out⟩, HB3.out.trans (HBr.out.mono HB3.out.size)⟩
  ·have f4 : (k == 4) = false := by rw [beq_eq_false_iff_ne]; omega
   have f4n : (k != 4) = true := by rw [bne_iff_ne]; omega
   have f56 : (k == 5) = true ∨ ((k == 5) = false ∧ (k == 6) = true) := by
    rcases hk with rfl | rfl
    ·exact .inl rfl
    ·exact .inr ⟨rfl, rfl⟩
   have Hk4 : Hid (decide (k = 4) = false) := Lib.hid (decide_eq_false (by omega))
   have Hk3 : Hid (3 < k) := Lib.hid (by omega)
   clear hk
   have hgo : (bt = false ∧ path.toList.isEmpty = false) ∨ (bt = true ∨ (bt = false ∧ path.toList.isEmpty = true)) := by
    cases bt
    ·cases path.toList.isEmpty
     ·exact .inl ⟨rfl, rfl⟩
     ·exact .inr (.inr ⟨rfl, rfl⟩)
    ·exact .inr (.inl rfl)
   rcases hgo with ⟨rfl, hne⟩ | hgo
   ·have HE := Lib.hid (HY2.out Hk3.out rfl hne)
    rcases f56 with f5 | ⟨f5, f6⟩
    all_goals
     go_wp2_with fail
     go_ret2
     exact HEr.out _ _ HNB.out HE.out
   ·have HR3 := Lib.hid (HY3.out Hk3.out (hgo.imp id (·.2)))
    rcases f56 with f5 | ⟨f5, f6⟩
    all_goals
     rcases hgo with rfl | ⟨rfl, hne⟩
     all_goals
      go_wp2
      go_loopw [9, 46] (fun y x wr => ∃ (i : Nat) (m : List Ent), i ≤ l.length ∧ x = .int .i64 (i : Int) ∧ m.length ≤ i ∧ m = FT k path (l.take i) ∧ OwnSeq entS 48 wb wr y m ∧ Below wb.heap.size wb wr) (fun _ x _ => l.length - (intOf x).toNat)
      case atStart => exact ⟨0, [], by omega, rfl, by simp, rfl, HN.out, HNB.out⟩
      case round =>
       obtain ⟨i, m, hi, rfl, hm, hall, ho, hB⟩ := hrel
       have HBr := Lib.hid hB
       have Hall := Lib.hid hall
       have HO := Lib.hid ho
       have Hl1 : Hid (m.length + 1 ≤ 100000000) := Lib.hid (by have := Hl.out; omega)
       clear hB hall ho
       by_cases h : i < l.length
       ·have hiI : (i : Int) < l.length := by omega
        obtain ⟨x, hx⟩ : ∃ x, l[i]? = some x := ⟨_, List.getElem?_eq_getElem h⟩
        have Hxm := Lib.hid (List.mem_of_getElem? hx)
        have Hxz := Lib.hid (Hz.out x (List.mem_of_getElem? hx))
        have HD : Hid (FT k path (l.take (i + 1)) = FT k path (l.take i) ++ (if (!(decide ((k : Int) = 4) && undB x.path path)) = true then [x] else [])) := Lib.hid (by rw [List.take_add_one, hx]; exact FT_snoc)
        obtain ⟨_, _, e9, _, _, h4⟩ := Hvb.out
        cases e9
        obtain ⟨b, o, cs, rfl, ⟨yva, yvx, rfl, ra, rx⟩, hc⟩ := h4 i x hx
        have Hra := Lib.hid ra
        have Hrx := Lib.hid rx
        obtain ⟨xA, xca, rfl, _, _⟩ := ra.slice
        obtain ⟨xX, xcx, rfl, _, _⟩ := rx.slice
        obtain ⟨xk, xp, xat, xt, xsz, xd, xex⟩ := x
        dsimp only at hc Hra Hrx Hxz HD
        generalize hxna : xat.length = xna at *
        generalize hxnx : xex.length = xnx at *
        have Hx1 := Lib.hid hxna
        have Hx2 := Lib.hid hxnx
        have e0 := cell_below HBr.out (show wb.cell? ⟨b, o + i * 7, none⟩ = some (.int .i64 xk) from hc 0 _ rfl)
        have e1 := cell_below HBr.out (show wb.cell? ⟨b, o + i * 7 + 1, none⟩ = some (.string xp) from hc 1 _ rfl)
        have e2 := cell_below HBr.out (show wb.cell? ⟨b, o + i * 7 + 2, none⟩ = some (.slice xA xna xca) from hc 2 _ rfl)
        have e3 := cell_below HBr.out (show wb.cell? ⟨b, o + i * 7 + 3, none⟩ = some (.string xt) from hc 3 _ rfl)
        have e4 := cell_below HBr.out (show wb.cell? ⟨b, o + i * 7 + 4, none⟩ = some (.int .i64 xsz) from hc 4 _ rfl)
        have e5 := cell_below HBr.out (show wb.cell? ⟨b, o + i * 7 + 5, none⟩ = some (.string xd) from hc 5 _ rfl)
        have e6 := cell_below HBr.out (show wb.cell? ⟨b, o + i * 7 + 6, none⟩ = some (.slice xX xnx xcx) from hc 6 _ rfl)
        clear hc h4 hx ra rx hxna hxnx
        have HXf : Hid (Blk (wr.alloc (.cells #[.int .i64 xk, .string xp, .slice xA xna xca, .string xt, .int .i64 xsz, .string xd, .slice xX xnx xcx] 48)) wr.heap.size 48 [.int .i64 xk, .string xp, .slice xA xna xca, .string xt, .int .i64 xsz, .string xd, .slice xX xnx xcx]) := Lib.hid (Blk.new _ _ _)
        have HBz := Lib.hid (HBr.out.alloc HBr.out.size (.cells #[.int .i64 xk, .string xp, .slice xA xna xca, .string xt, .int .i64 xsz, .string xd, .slice xX xnx xcx] 48))
        have HOz := Lib.hid (HO.out.alloc (.cells #[.int .i64 xk, .string xp, .slice xA xna xca, .string xt, .int .i64 xsz, .string xd, .slice xX xnx xcx] 48))
        go_upto_region 15 with fail
        clear e0 e1 e2 e3 e4 e5 e6
        generalize wr.alloc (.cells #[.int .i64 xk, .string xp, .slice xA xna xca, .string xt, .int .i64 xsz, .string xd, .slice xX xnx xcx] 48) = wz at *
        generalize wr.heap.size = gx at *
        have HKz := Lib.hid (HK3.out.kept HBz.out)
        have d0 := HKz.out.cell (i := 0) rfl
        have d1 := HKz.out.cell (i := 1) rfl
        have x0 := HXf.out.cell (i := 0) rfl
        have x1 := HXf.out.cell (i := 1) rfl
        have x2 := HXf.out.cell (i := 2) rfl
        have x3 := HXf.out.cell (i := 3) rfl
        have x4 := HXf.out.cell (i := 4) rfl
        have x5 := HXf.out.cell (i := 5) rfl
        have x6 := HXf.out.cell (i := 6) rfl
        have HE : Hid (m ++ [(⟨xk, xp, xat, xt, xsz, xd, xex⟩ : Ent)] = FT k path (l.take (i + 1))) := Lib.hid (by rw [HD.out, Hall.out, if_pos (by rw [Hk4.out, Bool.false_and]; rfl)])
        go_wp2_with (at_builtin; refine append_seq (ρ := entS) (w0 := wb) Tryz.elemEnt rfl _ _ rfl rfl (HOz.out.alloc _) rfl (src1 (ρ := entS) [.int .i64 xk, .string xp, .slice xA xna xca, .string xt, .int .i64 xsz, .string xd, .slice xX xnx xcx] (⟨xk, xp, xat, xt, xsz, xd, xex⟩ : Ent) ⟨_, _, rfl, Hra.out, Hrx.out⟩ rfl) Hl1.out (HBz.out.alloc HBz.out.size _) ?_; intro va1 wa1 hob _ hbb; have KU1 := Lib.hid hob; have KB1 := Lib.hid hbb; clear hob hbb)
        go_roundw
        case rel => exact ⟨i + 1, _, by omega, by go_num, by simp; omega, HE.out, KU1.out, KB1.out⟩
        case measure => simp [intOf]; omega
       ·have hiI : ¬ (i : Int) < l.length := by omega
        have HE : Hid (R = (0, m)) := Lib.hid (by rw [HR3.out, Hall.out, List.take_of_length_le (by omega)])
        go_wp2_with fail
        go_ret2
        exact ⟨by rw [HE.out]; exact ⟨_, rfl, HO.out.at HBr.out⟩, HB3.out.trans (HBr.out.mono HB3.out.size)⟩
  ·have f4 : (k == 4) = false := by rw [beq_eq_false_iff_ne]; exact k4
   have f5 : (k == 5) = false := by rw [beq_eq_false_iff_ne]; exact k5
   have f6 : (k == 6) = false := by rw [beq_eq_false_iff_ne]; exact k6
   have Hk3 : Hid (¬ 3 < k) := Lib.hid (by have := HKr.out; omega)
   clear k4 k5 k6
   have HPa := Lib.hid (fun (W : World) => parent31_ex W path HHp.out HPok.out)
   have HDi := Lib.hid (fun (W : World) (u : ByteArray) (h : SeqAt entS W (.slice A l.length c) l) => dir37_ex W (.slice A l.length c) l h u)
   have HCm := Lib.hid (fun (W : World) (q : ByteArray) (hq : q.size ≤ 1000000) => compare31_ex W path q HHp.out hq)
   have HRe : Hid (entS.R wb [.int .i64 k, .string path, .slice Aa na ca, .string tgt, .int .i64 size, .string dig, .slice Ax nx cx] ⟨k, path, attrs, tgt, size, dig, exts⟩) := Lib.hid ⟨_, _, rfl, Hva.out.below HB3.out, Hvx.out.below HB3.out⟩
   go_wp2_with fail
   refine (HPa.out _).mono ?_
   rintro e5 w5 ⟨⟨n5, rfl⟩, hb5⟩
   obtain ⟨up, hup⟩ : ∃ u, parB path = u := ⟨_, rfl⟩
   rw [hup] at HY4 HY5 HY6 ⊢
   clear hup
   have HK5 := Lib.hid (HK4.out.kept hb5)
   have HF5 := Lib.hid (HF4.out.kept hb5)
   have HN5 := Lib.hid (HN.out.below hb5)
   have HB5 := Lib.hid (HNB.out.trans (hb5.mono HNB.out.size))
   clear hb5 d0 d1 x0 HK4 HF4 HN HNB
   go_wp2_with fail
   refine (HDi.out _ up (Hvb.out.below HB5.out)).mono ?_
   rintro e6 w6 ⟨rfl, hb6⟩
   obtain ⟨n6, hn6⟩ : ∃ n, dirE l up = n := ⟨_, rfl⟩
   rw [hn6] at HY4 HY5 HY6 ⊢
   clear hn6
   have HK6 := Lib.hid (HK5.out.kept hb6)
   have HF6 := Lib.hid (HF5.out.kept hb6)
   have HN6 := Lib.hid (HN5.out.below hb6)
   have HB6 := Lib.hid (HB5.out.trans (hb6.mono HB5.out.size))
   clear hb6 HK5 HF5 HN5 HB5
   have d0 := HK6.out.cell (i := 0) rfl
   have x0 := HF6.out.cell (i := 0) rfl
   by_cases h6 : n6 = 0
   ·subst h6
    have hl5 : l.length ≤ 1000 := Hl.out
    have hl5n : ¬ 5000 ≤ l.length := by omega
    have hl5i : ¬ (5000 : Int) ≤ l.length := by omega
    have hl5d : decide (5000 ≤ l.length) = false := decide_eq_false hl5n
    have hq : (bt = true ∧ ((ok_ == 2) = true ∧ (k == 2) = false ∨ (ok_ == 2) = false ∧ (k == 2) = true)) ∨ (bt = false ∨ (bt = true ∧ (ok_ == 2) = true ∧ (k == 2) = true) ∨ (bt = true ∧ (ok_ == 2) = false ∧ (k == 2) = false)) := by
     cases bt <;> cases (ok_ == 2) <;> cases (k == 2) <;> simp
    rcases hq with ⟨rfl, hq⟩ | hq
    ·have HE := Lib.hid (HY5.out Hk3.out rfl rfl hq)
     rcases hq with ⟨q1, q2⟩ | ⟨q1, q2⟩
     all_goals
      go_wp2_with fail
      go_ret2
      exact HEr.out _ _ HB6.out HE.out
    ·have HR6 := Lib.hid (HY6.out Hk3.out rfl hq)
     obtain ⟨L2, hL2⟩ : ∃ L, insK (⟨k, path, attrs, tgt, size, dig, exts⟩ : Ent) false l = L := ⟨_, rfl⟩
     rw [hL2] at HR6
     have HL2 := Lib.hid hL2
     clear hL2
     rcases hq with rfl | ⟨rfl, q1, q2⟩ | ⟨rfl, q1, q2⟩
     all_goals
      go_wp2
      go_loopw [9, 15, 98] (fun y d x wr => ∃ (i : Nat) (m : List Ent) (dn : Bool), i ≤ l.length ∧ x = .int .i64 (i : Int) ∧ d = .bool dn ∧ m.length ≤ i + (if dn then 1 else 0) ∧ m ++ insK (⟨k, path, attrs, tgt, size, dig, exts⟩ : Ent) dn (l.drop i) = L2 ∧ OwnSeq entS 48 wb wr y m ∧ Below wb.heap.size wb wr) (fun _ _ x _ => l.length - (intOf x).toNat)
      case atStart => exact ⟨0, [], false, by omega, rfl, rfl, by simp, (by rw [List.nil_append, List.drop_zero]; exact HL2.out), HN6.out, HB6.out⟩
      case round =>
       obtain ⟨i, m, dn, hi, rfl, rfl, hm, hall, ho, hB⟩ := hrel
       have HBr := Lib.hid hB
       have Hall := Lib.hid hall
       have HO := Lib.hid ho
       have HNe := Lib.hid (fun g hg => HO.out.lt (g := g) hg)
       have Hm := Lib.hid hm
       have Hl1 : Hid (m.length + 1 ≤ 100000000) := Lib.hid (by have := Hl.out; have := hm; split at this <;> omega)
       have HKr := Lib.hid (HK3.out.kept hB)
       clear hB hall ho hm d0 x0
       by_cases h : i < l.length
       ·have hiI : (i : Int) < l.length := by omega
        obtain ⟨x, hx⟩ : ∃ x, l[i]? = some x := ⟨_, List.getElem?_eq_getElem h⟩
        have Hxm := Lib.hid (List.mem_of_getElem? hx)
        have Hxz := Lib.hid (Hz.out x (List.mem_of_getElem? hx))
        have HD : Hid (m ++ ((if dn = false ∧ pcmp path x.path ≤ 0 then [(⟨k, path, attrs, tgt, size, dig, exts⟩ : Ent)] else []) ++ ((if x.path = path then [] else [x]) ++ insK (⟨k, path, attrs, tgt, size, dig, exts⟩ : Ent) (dn || decide (pcmp path x.path ≤ 0)) (l.drop (i + 1)))) = L2) := Lib.hid (by have h6 := Hall.out; rw [insK_drop hx] at h6; exact h6)
        obtain ⟨_, _, e9, _, _, h4⟩ := Hvb.out
        cases e9
        obtain ⟨b, o, cs, rfl, ⟨yva, yvx, rfl, ra, rx⟩, hc⟩ := h4 i x hx
        have Hra := Lib.hid ra
        have Hrx := Lib.hid rx
        obtain ⟨xA, xca, rfl, _, _⟩ := ra.slice
        obtain ⟨xX, xcx, rfl, _, _⟩ := rx.slice
        obtain ⟨xk, xp, xat, xt, xsz, xd, xex⟩ := x
        dsimp only at hc Hra Hrx Hxz HD
        generalize hxna : xat.length = xna at *
        generalize hxnx : xex.length = xnx at *
        have Hx1 := Lib.hid hxna
        have Hx2 := Lib.hid hxnx
        have e0 := cell_below HBr.out (show wb.cell? ⟨b, o + i * 7, none⟩ = some (.int .i64 xk) from hc 0 _ rfl)
        have e1 := cell_below HBr.out (show wb.cell? ⟨b, o + i * 7 + 1, none⟩ = some (.string xp) from hc 1 _ rfl)
        have e2 := cell_below HBr.out (show wb.cell? ⟨b, o + i * 7 + 2, none⟩ = some (.slice xA xna xca) from hc 2 _ rfl)
        have e3 := cell_below HBr.out (show wb.cell? ⟨b, o + i * 7 + 3, none⟩ = some (.string xt) from hc 3 _ rfl)
        have e4 := cell_below HBr.out (show wb.cell? ⟨b, o + i * 7 + 4, none⟩ = some (.int .i64 xsz) from hc 4 _ rfl)
        have e5 := cell_below HBr.out (show wb.cell? ⟨b, o + i * 7 + 5, none⟩ = some (.string xd) from hc 5 _ rfl)
        have e6 := cell_below HBr.out (show wb.cell? ⟨b, o + i * 7 + 6, none⟩ = some (.slice xX xnx xcx) from hc 6 _ rfl)
        clear hc h4 hx ra rx hxna hxnx
        have HXf : Hid (Blk (wr.alloc (.cells #[.int .i64 xk, .string xp, .slice xA xna xca, .string xt, .int .i64 xsz, .string xd, .slice xX xnx xcx] 48)) wr.heap.size 48 [.int .i64 xk, .string xp, .slice xA xna xca, .string xt, .int .i64 xsz, .string xd, .slice xX xnx xcx]) := Lib.hid (Blk.new _ _ _)
        have HBz := Lib.hid (HBr.out.alloc HBr.out.size (.cells #[.int .i64 xk, .string xp, .slice xA xna xca, .string xt, .int .i64 xsz, .string xd, .slice xX xnx xcx] 48))
        have HOz := Lib.hid (HO.out.alloc (.cells #[.int .i64 xk, .string xp, .slice xA xna xca, .string xt, .int .i64 xsz, .string xd, .slice xX xnx xcx] 48))
        go_upto_region 31 with fail
        clear e0 e1 e2 e3 e4 e5 e6
        generalize wr.alloc (.cells #[.int .i64 xk, .string xp, .slice xA xna xca, .string xt, .int .i64 xsz, .string xd, .slice xX xnx xcx] 48) = wz at *
        generalize wr.heap.size = gx at *
        have HKz := Lib.hid (HK3.out.kept HBz.out)
        have d0 := HKz.out.cell (i := 0) rfl
        have d1 := HKz.out.cell (i := 1) rfl
        have d2 := HKz.out.cell (i := 2) rfl
        have d3 := HKz.out.cell (i := 3) rfl
        have d4 := HKz.out.cell (i := 4) rfl
        have d5 := HKz.out.cell (i := 5) rfl
        have d6 := HKz.out.cell (i := 6) rfl
        have x0 := HXf.out.cell (i := 0) rfl
        have x1 := HXf.out.cell (i := 1) rfl
        have x2 := HXf.out.cell (i := 2) rfl
        have x3 := HXf.out.cell (i := 3) rfl
        have x4 := HXf.out.cell (i := 4) rfl
        have x5 := HXf.out.cell (i := 5) rfl
        have x6 := HXf.out.cell (i := 6) rfl
        cases dn with
        | true =>
         have HEs : Hid (xp = path → m ++ insK (⟨k, path, attrs, tgt, size, dig, exts⟩ : Ent) true (l.drop (i + 1)) = L2) := Lib.hid (fun e => by rw [← HD.out, if_pos e]; simp)
         have HEa : Hid (¬ xp = path → (m ++ [(⟨xk, xp, xat, xt, xsz, xd, xex⟩ : Ent)]) ++ insK (⟨k, path, attrs, tgt, size, dig, exts⟩ : Ent) true (l.drop (i + 1)) = L2) := Lib.hid (fun e => by rw [← HD.out, if_neg e]; simp)
         by_cases hxp : xp = path
         ·have HE := Lib.hid (HEs.out hxp)
          subst hxp
          have b1 : (xp != xp) = false := bneV_false rfl
          have b2 : (xp == xp) = true := beqV_true rfl
          go_wp2_with fail
          go_roundw
          case rel => exact ⟨i + 1, _, true, by omega, by go_num, rfl, by have := Hm.out; simp at this ⊢; omega, HE.out, HOz.out, HBz.out⟩
          case measure => simp [intOf]; omega
         ·have HE := Lib.hid (HEa.out hxp)
          have b1 : (xp != path) = true := bneV_true hxp
          have b2 : (xp == path) = false := beqV_false hxp
          have b3 : ¬ xp.toList = path.toList := fun e => hxp (by rw [ByteArray.toList_eq, ByteArray.toList_eq] at e; exact ByteArray.ext (Array.toList_inj.1 e))
          have b4 : (xp.toList == path.toList) = false := by rw [beq_eq_false_iff_ne]; exact b3
          clear hxp
          go_wp2_with (at_builtin; (refine append_seq (ρ := entS) (w0 := wb) Tryz.elemEnt rfl _ _ rfl rfl (HOz.out.alloc _) rfl (src1 (ρ := entS) [.int .i64 xk, .string xp, .slice xA xna xca, .string xt, .int .i64 xsz, .string xd, .slice xX xnx xcx] (⟨xk, xp, xat, xt, xsz, xd, xex⟩ : Ent) ⟨_, _, rfl, Hra.out, Hrx.out⟩ rfl) Hl1.out (HBz.out.alloc HBz.out.size _) ?_; intro va2 wa2 hob _ hbb; have KU2 := Lib.hid hob; have KB2 := Lib.hid hbb; clear hob hbb))
          go_roundw
          case rel => exact ⟨i + 1, _, true, by omega, by go_num, rfl, by have := Hm.out; simp at this ⊢; omega, HE.out, KU2.out, KB2.out⟩
          case measure => simp [intOf]; omega
        | false =>
         go_wp2_with fail
         refine (HCm.out _ xp Hxz.out).mono ?_
         rintro e7 w7 ⟨rfl, hb7⟩
         obtain ⟨n7, hn7⟩ : ∃ n, pcmp path xp = n := ⟨_, rfl⟩
         rw [hn7] at HD ⊢
         clear hn7
         have HOy := Lib.hid (HOz.out.below hb7)
         have HBy := Lib.hid (HBz.out.trans (hb7.mono HBz.out.size))
         have HXg := Lib.hid (HXf.out.kept hb7)
         have HKg := Lib.hid (HKz.out.kept hb7)
         clear hb7 x0 d0 x1 d1 x2 d2 x3 d3 x4 d4 x5 d5 x6 d6
         have d0 := HKg.out.cell (i := 0) rfl
         have d1 := HKg.out.cell (i := 1) rfl
         have d2 := HKg.out.cell (i := 2) rfl
         have d3 := HKg.out.cell (i := 3) rfl
         have d4 := HKg.out.cell (i := 4) rfl
         have d5 := HKg.out.cell (i := 5) rfl
         have d6 := HKg.out.cell (i := 6) rfl
         have x0 := HXg.out.cell (i := 0) rfl
         have x1 := HXg.out.cell (i := 1) rfl
         have x2 := HXg.out.cell (i := 2) rfl
         have x3 := HXg.out.cell (i := 3) rfl
         have x4 := HXg.out.cell (i := 4) rfl
         have x5 := HXg.out.cell (i := 5) rfl
         have x6 := HXg.out.cell (i := 6) rfl
         by_cases h7 : n7 ≤ 0
         ·go_upto_region 34 with (at_builtin; (refine append_seq (ρ := entS) (w0 := wb) Tryz.elemEnt rfl _ _ rfl rfl (HOy.out.alloc _) rfl (src1 (ρ := entS) [.int .i64 k, .string path, .slice Aa na ca, .string tgt, .int .i64 size, .string dig, .slice Ax nx cx] (⟨k, path, attrs, tgt, size, dig, exts⟩ : Ent) HRe.out rfl) Hl1.out (HBy.out.alloc HBy.out.size _) ?_; intro va1 wa1 hob hgb hbb; have KU1 := Lib.hid hob; have KB1 := Lib.hid hbb; have KG1 := Lib.hid hgb; clear hob hgb hbb))
          have HXh := Lib.hid ((HXg.out.alloc (.cells #[.int .i64 k, .string path, .slice Aa na ca, .string tgt, .int .i64 size, .string dig, .slice Ax nx cx] 48)).grownB KG1.out (fun e => Nat.lt_irrefl _ (HNe.out _ e)))
          have HKh := Lib.hid (HK3.out.kept KB1.out)
          have HEs : Hid (xp = path → (m ++ [(⟨k, path, attrs, tgt, size, dig, exts⟩ : Ent)]) ++ insK (⟨k, path, attrs, tgt, size, dig, exts⟩ : Ent) true (l.drop (i + 1)) = L2) := Lib.hid (fun e => by rw [← HD.out, if_pos e]; rw [if_pos ⟨by first | rfl | trivial, h7⟩, decide_eq_true h7]; simp)
          have HEa : Hid (¬ xp = path → ((m ++ [(⟨k, path, attrs, tgt, size, dig, exts⟩ : Ent)]) ++ [(⟨xk, xp, xat, xt, xsz, xd, xex⟩ : Ent)]) ++ insK (⟨k, path, attrs, tgt, size, dig, exts⟩ : Ent) true (l.drop (i + 1)) = L2) := Lib.hid (fun e => by rw [← HD.out, if_neg e]; rw [if_pos ⟨by first | rfl | trivial, h7⟩, decide_eq_true h7]; simp)
          have Hl2 : Hid ((m ++ [(⟨k, path, attrs, tgt, size, dig, exts⟩ : Ent)]).length + 1 ≤ 100000000) := Lib.hid (by have := Hl.out; have := Hm.out; simp at this ⊢; omega)
          clear x0 d0 x1 d1 x2 d2 x3 d3 x4 d4 x5 d5 x6 d6
          have d0 := HKh.out.cell (i := 0) rfl
          have d1 := HKh.out.cell (i := 1) rfl
          have d2 := HKh.out.cell (i := 2) rfl
          have d3 := HKh.out.cell (i := 3) rfl
          have d4 := HKh.out.cell (i := 4) rfl
          have d5 := HKh.out.cell (i := 5) rfl
          have d6 := HKh.out.cell (i := 6) rfl
          have x0 := HXh.out.cell (i := 0) rfl
          have x1 := HXh.out.cell (i := 1) rfl
          have x2 := HXh.out.cell (i := 2) rfl
          have x3 := HXh.out.cell (i := 3) rfl
          have x4 := HXh.out.cell (i := 4) rfl
          have x5 := HXh.out.cell (i := 5) rfl
          have x6 := HXh.out.cell (i := 6) rfl
          by_cases hxp : xp = path
          ·have HE := Lib.hid (HEs.out hxp)
           subst hxp
           have b1 : (xp != xp) = false := bneV_false rfl
           have b2 : (xp == xp) = true := beqV_true rfl
           go_wp2_with fail
           go_roundw
           case rel => exact ⟨i + 1, _, true, by omega, by go_num, rfl, by have := Hm.out; simp at this ⊢; omega, HE.out, KU1.out, KB1.out⟩
           case measure => simp [intOf]; omega
          ·have HE := Lib.hid (HEa.out hxp)
           have b1 : (xp != path) = true := bneV_true hxp
           have b2 : (xp == path) = false := beqV_false hxp
           have b3 : ¬ xp.toList = path.toList := fun e => hxp (by rw [ByteArray.toList_eq, ByteArray.toList_eq] at e; exact ByteArray.ext (Array.toList_inj.1 e))
           have b4 : (xp.toList == path.toList) = false := by rw [beq_eq_false_iff_ne]; exact b3
           clear hxp
           go_wp2_with (at_builtin; (refine append_seq (ρ := entS) (w0 := wb) Tryz.elemEnt rfl _ _ rfl rfl (KU1.out.alloc _) rfl (src1 (ρ := entS) [.int .i64 xk, .string xp, .slice xA xna xca, .string xt, .int .i64 xsz, .string xd, .slice xX xnx xcx] (⟨xk, xp, xat, xt, xsz, xd, xex⟩ : Ent) ⟨_, _, rfl, Hra.out, Hrx.out⟩ rfl) Hl2.out (KB1.out.alloc KB1.out.size _) ?_; intro va2 wa2 hob _ hbb; have KU2 := Lib.hid hob; have KB2 := Lib.hid hbb; clear hob hbb))
           go_roundw
           case rel => exact ⟨i + 1, _, true, by omega, by go_num, rfl, by have := Hm.out; simp at this ⊢; omega, HE.out, KU2.out, KB2.out⟩
           case measure => simp [intOf]; omega
         ·have h7' : ¬ n7 ≤ 0 := h7
          have HEs : Hid (xp = path → m ++ insK (⟨k, path, attrs, tgt, size, dig, exts⟩ : Ent) false (l.drop (i + 1)) = L2) := Lib.hid (fun e => by rw [← HD.out, if_pos e]; rw [if_neg (fun c => h7 c.2), decide_eq_false h7]; simp)
          have HEa : Hid (¬ xp = path → (m ++ [(⟨xk, xp, xat, xt, xsz, xd, xex⟩ : Ent)]) ++ insK (⟨k, path, attrs, tgt, size, dig, exts⟩ : Ent) false (l.drop (i + 1)) = L2) := Lib.hid (fun e => by rw [← HD.out, if_neg e]; rw [if_neg (fun c => h7 c.2), decide_eq_false h7]; simp)
          by_cases hxp : xp = path
          ·have HE := Lib.hid (HEs.out hxp)
           subst hxp
           have b1 : (xp != xp) = false := bneV_false rfl
           have b2 : (xp == xp) = true := beqV_true rfl
           go_wp2_with fail
           go_roundw
           case rel => exact ⟨i + 1, _, false, by omega, by go_num, rfl, by have := Hm.out; simp at this ⊢; omega, HE.out, HOy.out, HBy.out⟩
           case measure => simp [intOf]; omega
          ·have HE := Lib.hid (HEa.out hxp)
           have b1 : (xp != path) = true := bneV_true hxp
           have b2 : (xp == path) = false := beqV_false hxp
           have b3 : ¬ xp.toList = path.toList := fun e => hxp (by rw [ByteArray.toList_eq, ByteArray.toList_eq] at e; exact ByteArray.ext (Array.toList_inj.1 e))
           have b4 : (xp.toList == path.toList) = false := by rw [beq_eq_false_iff_ne]; exact b3
           clear hxp
           go_wp2_with (at_builtin; (refine append_seq (ρ := entS) (w0 := wb) Tryz.elemEnt rfl _ _ rfl rfl (HOy.out.alloc _) rfl (src1 (ρ := entS) [.int .i64 xk, .string xp, .slice xA xna xca, .string xt, .int .i64 xsz, .string xd, .slice xX xnx xcx] (⟨xk, xp, xat, xt, xsz, xd, xex⟩ : Ent) ⟨_, _, rfl, Hra.out, Hrx.out⟩ rfl) Hl1.out (HBy.out.alloc HBy.out.size _) ?_; intro va2 wa2 hob _ hbb; have KU2 := Lib.hid hob; have KB2 := Lib.hid hbb; clear hob hbb))
           go_roundw
           case rel => exact ⟨i + 1, _, false, by omega, by go_num, rfl, by have := Hm.out; simp at this ⊢; omega, HE.out, KU2.out, KB2.out⟩
           case measure => simp [intOf]; omega
       ·have hiI : ¬ (i : Int) < l.length := by omega
        have d0 := HKr.out.cell (i := 0) rfl
        have d1 := HKr.out.cell (i := 1) rfl
        have d2 := HKr.out.cell (i := 2) rfl
        have d3 := HKr.out.cell (i := 3) rfl
        have d4 := HKr.out.cell (i := 4) rfl
        have d5 := HKr.out.cell (i := 5) rfl
        have d6 := HKr.out.cell (i := 6) rfl
        cases dn with
        | true =>
         have HE : Hid (R = (0, m)) := Lib.hid (by rw [HR6.out, ← Hall.out, List.drop_eq_nil_of_le (by omega)]; simp [insK])
         go_wp2_with fail
         go_ret2
         exact ⟨by rw [HE.out]; exact ⟨_, rfl, HO.out.at HBr.out⟩, HB3.out.trans (HBr.out.mono HB3.out.size)⟩
        | false =>
         have HE : Hid (R = (0, m ++ [(⟨k, path, attrs, tgt, size, dig, exts⟩ : Ent)])) := Lib.hid (by rw [HR6.out, ← Hall.out, List.drop_eq_nil_of_le (by omega)]; rfl)
         go_wp2_with (at_builtin; (refine append_seq (ρ := entS) (w0 := wb) Tryz.elemEnt rfl _ _ rfl rfl (HO.out.alloc _) rfl (src1 (ρ := entS) [.int .i64 k, .string path, .slice Aa na ca, .string tgt, .int .i64 size, .string dig, .slice Ax nx cx] (⟨k, path, attrs, tgt, size, dig, exts⟩ : Ent) HRe.out rfl) Hl1.out (HBr.out.alloc HBr.out.size _) ?_; intro va1 wa1 hob hgb hbb; have KU1 := Lib.hid hob; have KB1 := Lib.hid hbb; have KG1 := Lib.hid hgb; clear hob hgb hbb))
         go_ret2
         exact ⟨by rw [HE.out]; exact ⟨_, rfl, KU1.out.at KB1.out⟩, HB3.out.trans (KB1.out.mono HB3.out.size)⟩
   ·have f7 : (n6 != 0) = true := by rw [bne_iff_ne]; exact h6
    have HE := Lib.hid (HY4.out Hk3.out h6)
    go_wp2_with fail
    go_ret2
    exact HEr.out _ _ HB6.out HE.out
 ·have f1 : (n1 != 0) = true := by rw [bne_iff_ne]; exact hn1
  have HE := Lib.hid (HY1.out hn1)
  go_wp2_with fail
  go_ret2
  exact ⟨by rw [HE.out]; exact ⟨_, rfl, SeqAt.nil _⟩, HB1.out⟩
end
end Go.Proofs.YtbccghbngaiceaaGreatDoor
