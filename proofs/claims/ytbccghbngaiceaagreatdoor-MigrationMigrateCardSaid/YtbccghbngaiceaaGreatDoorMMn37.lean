/-
  Joined: MgB.
-/
import Derived.Test.YtbccghbngaiceaaGreatDoorMMn36
set_option linter.all false
set_option maxRecDepth 100000
set_option maxHeartbeats 64000000
namespace Go.Proofs.YtbccghbngaiceaaGreatDoor
section
open Go.RowKit
def RetEK (g : Option Ent) (e : Ending) : Prop := ∃ (k sz : Int) (p t d : ByteArray) (A B : Option Addr) (n m c f : Nat), e = .returned (.tuple #[.agg #[.int .i64 k, .string p, .slice A n c, .string t, .int .i64 sz, .string d, .slice B m f], .bool g.isSome]) ∧ ∀ y, g = some y → y.k = k
def RetW (w0 W : World) (l : List Hol) (n : Int) (e : Ending) : Prop := ∃ v, e = .returned (.tuple #[v, .int .i64 n]) ∧ OwnSeq holS 196 w0 W v l
theorem get37_ex (w : World) (v : Value) (l : List Ent) (hv : SeqAt entS w v l) (s : ByteArray) : Calls Tryz.prog 66 #[v, .string s] w fun e w' => RetEK (getT l s) e ∧ Below w.heap.size w w' := by
 obtain ⟨R, hR⟩ : ∃ R, getT l s = R := ⟨_, rfl⟩
 rw [hR]
 have HR := Lib.hid hR
 clear hR
 have Hv := Lib.hid hv
 obtain ⟨A, c, rfl, h1, h2⟩ := hv.slice
 clear hv
 have hZ := Blk.new w 48 [.int .i64 0, .string ⟨#[]⟩, .slice none 0 0, .string ⟨#[]⟩, .int .i64 0, .string ⟨#[]⟩, .slice none 0 0]
 change Blk (w.alloc (.cells #[.int .i64 0, .string ⟨#[]⟩, .slice none 0 0, .string ⟨#[]⟩, .int .i64 0, .string ⟨#[]⟩, .slice none 0 0] 48)) _ _ _ at hZ
 have HZ0 := Lib.hid hZ
 have HB0 := Lib.hid ((Below.refl w.heap.size w).alloc (Nat.le_refl _) (.cells #[.int .i64 0, .string ⟨#[]⟩, .slice none 0 0, .string ⟨#[]⟩, .int .i64 0, .string ⟨#[]⟩, .slice none 0 0] 48))
 clear hZ
 go_enter Tryz.func66, Tryz.ntmps66
 go_upto_region 1 with fail
 generalize w.alloc (.cells #[.int .i64 0, .string ⟨#[]⟩, .slice none 0 0, .string ⟨#[]⟩, .int .i64 0, .string ⟨#[]⟩, .slice none 0 0] 48) = wa at *
 go_wp2
 go_loopw [7, 10] (fun _ x wr => ∃ i : Nat, i ≤ l.length ∧ x = .int .i64 (i : Int) ∧ Below wa.heap.size wa wr ∧ getT (l.drop i) s = R) (fun _ x _ => l.length - (intOf x).toNat)
 case atStart => exact ⟨0, by omega, rfl, Below.refl _ _, HR.out⟩
 case round =>
  obtain ⟨i, hi, rfl, hB, hq⟩ := hrel
  have HQ := Lib.hid hq
  clear hq
  have HB := Lib.hid hB
  have HZ := Lib.hid (HZ0.out.kept hB)
  clear hB
  by_cases h : i < l.length
  ·have hiI : (i : Int) < l.length := by omega
   obtain ⟨x, hx⟩ : ∃ x, l[i]? = some x := ⟨_, List.getElem?_eq_getElem h⟩
   have HD : Hid (R = if x.path = s then some x else getT (l.drop (i + 1)) s) := Lib.hid (by rw [← HQ.out, get_drop hx])
   obtain ⟨_, _, e9, _, _, h4⟩ := Hv.out.below (HB0.out.trans (HB.out.mono HB0.out.size))
   cases e9
   obtain ⟨b, o, cs, rfl, ⟨va, vx, rfl, ra, rx⟩, hc⟩ := h4 i x hx
   obtain ⟨Aa, ca, rfl, _, _⟩ := ra.slice
   obtain ⟨Ax, cx, rfl, _, _⟩ := rx.slice
   obtain ⟨k, p, attrs, t, sz, d, exts⟩ := x
   dsimp only at hc HD
   have HK1 : Hid (p = s → ∀ y, R = some y → y.k = k) := Lib.hid (fun e y hy => by rw [HD.out, if_pos e] at hy; exact (congrArg Ent.k (Option.some.inj hy)).symm)
   have HK2 : Hid (p = s → R.isSome = true) := Lib.hid (fun e => by rw [HD.out, if_pos e]; rfl)
   have HK3 : Hid (¬ p = s → getT (l.drop (i + 1)) s = R) := Lib.hid (fun e => by rw [HD.out, if_neg e])
   clear HD
   generalize attrs.length = na at *
   generalize exts.length = nx at *
   have e0 : wr.cell? ⟨b, o + i * 7, none⟩ = some (.int .i64 k) := hc 0 _ rfl
   have e1 : wr.cell? ⟨b, o + i * 7 + 1, none⟩ = some (.string p) := hc 1 _ rfl
   have e2 : wr.cell? ⟨b, o + i * 7 + 2, none⟩ = some (.slice Aa na ca) := hc 2 _ rfl
   have e3 : wr.cell? ⟨b, o + i * 7 + 3, none⟩ = some (.string t) := hc 3 _ rfl
   have e4 : wr.cell? ⟨b, o + i * 7 + 4, none⟩ = some (.int .i64 sz) := hc 4 _ rfl
   have e5 : wr.cell? ⟨b, o + i * 7 + 5, none⟩ = some (.string d) := hc 5 _ rfl
   have e6 : wr.cell? ⟨b, o + i * 7 + 6, none⟩ = some (.slice Ax nx cx) := hc 6 _ rfl
   clear hc h4 hx ra rx
   have hF := Blk.new wr 48 [.int .i64 k, .string p, .slice Aa na ca, .string t, .int .i64 sz, .string d, .slice Ax nx cx]
   change Blk (wr.alloc (.cells #[.int .i64 k, .string p, .slice Aa na ca, .string t, .int .i64 sz, .string d, .slice Ax nx cx] 48)) _ _ _ at hF
   have HBz := Lib.hid (HB.out.alloc HB.out.size (.cells #[.int .i64 k, .string p, .slice Aa na ca, .string t, .int .i64 sz, .string d, .slice Ax nx cx] 48))
   have HZz := Lib.hid (HZ.out.alloc (.cells #[.int .i64 k, .string p, .slice Aa na ca, .string t, .int .i64 sz, .string d, .slice Ax nx cx] 48))
   go_upto_region 4 with fail
   clear e0 e1 e2 e3 e4 e5 e6
   generalize wr.alloc (.cells #[.int .i64 k, .string p, .slice Aa na ca, .string t, .int .i64 sz, .string d, .slice Ax nx cx] 48) = wz at *
   have hg1 := hF.cell (i := 1) rfl
   have HFz := Lib.hid hF
   clear hF
   by_cases hps : p = s
   ·have HQ1 := Lib.hid (HK1.out hps)
    have HQ2 := Lib.hid (HK2.out hps)
    subst hps
    go_upto_region 5 with fail
    refine wp_region_lit ?_
    refine wpList_load_row rfl 48 (.tmp 7) rfl wr.heap.size rfl 48 _ (0, 0) _ HFz.out Tryz.underlying48 rfl (by kernel_rfl) ?_
    refine wpList_store_row rfl 48 (.tmp 4) (.tmp 18) rfl w.heap.size _ rfl rfl 48 _ HZz.out (by kernel_rfl) rfl (by simp [Value.oneCell']) ?_
    clear hg1
    go_wp2_with fail
    refine bodyPost_ret (results_row_tmp rfl _ _ w.heap.size 48 _ (0, 0) _ rfl (setRow_heap _ _ _ _ _ _ HZz.out) Tryz.underlying48 rfl (by kernel_rfl)) rfl ?_
    exact ⟨⟨k, sz, p, t, d, Aa, Ax, na, nx, ca, cx, by rw [HQ2.out] <;> rfl, HQ1.out⟩, below_setRow (HB0.out.trans (HBz.out.mono HB0.out.size)) (Nat.le_refl _) _⟩
   ·have b3 : ¬ p.toList = s.toList := fun e => hps (by rw [ByteArray.toList_eq, ByteArray.toList_eq] at e; exact ByteArray.ext (Array.toList_inj.1 e))
    have b4 : (p.toList == s.toList) = false := by rw [beq_eq_false_iff_ne]; exact b3
    have HE := Lib.hid (HK3.out hps)
    clear hps
    go_wp2
    go_roundw
    case rel => exact ⟨i + 1, by omega, by go_num, HBz.out, HE.out⟩
    case measure => simp [intOf]; omega
  ·have hiI : ¬ (i : Int) < l.length := by omega
   have HE : Hid (R = none) := Lib.hid (by rw [← HQ.out, List.drop_eq_nil_of_le (by omega)]; rfl)
   have hbt : (Tryz.prog.built 48 []) = some #[.int .i64 0, .string ⟨#[]⟩, .slice none 0 0, .string ⟨#[]⟩, .int .i64 0, .string ⟨#[]⟩, .slice none 0 0] := by kernel_rfl
   have hmap : ∀ f : Nat × Operand → Nat × Value, (Array.map f #[]).toList = [] := fun f => by simp
   go_upto_region 7 with fail
   refine wp_region_lit ?_
   refine wpList_build rfl 48 #[] rfl (by rw [hmap, hbt]; rfl) ?_
   rw [hmap, hbt]
   refine wpList_store_row rfl 48 (.tmp 4) (.tmp 20) rfl w.heap.size #[.int .i64 0, .string ⟨#[]⟩, .slice none 0 0, .string ⟨#[]⟩, .int .i64 0, .string ⟨#[]⟩, .slice none 0 0] rfl rfl 48 _ HZ.out (by kernel_rfl) rfl (by simp [Value.oneCell']) ?_
   go_wp2_with fail
   refine bodyPost_ret (results_row_tmp rfl _ _ w.heap.size 48 _ (0, 0) _ rfl (setRow_heap _ _ _ _ _ _ HZ.out) Tryz.underlying48 rfl (by kernel_rfl)) rfl ?_
   exact ⟨⟨0, 0, _, _, _, none, none, 0, 0, 0, 0, by rw [HE.out]; rfl, fun y hy => by rw [HE.out] at hy; cases hy⟩, below_setRow (HB0.out.trans (HB.out.mono HB0.out.size)) (Nat.le_refl _) _⟩
theorem dir37_ex (w : World) (v : Value) (l : List Ent) (hv : SeqAt entS w v l) (s : ByteArray) : Calls Tryz.prog 135 #[v, .string s] w fun e w' => e = .returned (.int .i64 (dirE l s)) ∧ Below w.heap.size w w' := by
 have HG := Lib.hid (get37_ex w v l hv s)
 obtain ⟨R, hR⟩ : ∃ R, dirE l s = R := ⟨_, rfl⟩
 rw [hR]
 unfold dirE at hR
 generalize getT l s = G at *
 obtain ⟨A, c, rfl, h1, h2⟩ := hv.slice
 clear hv
 by_cases h0 : s.size = 0
 ·have f0 : s.toList.isEmpty = true := by
   rw [show s = ⟨#[]⟩ by apply ByteArray.ext; exact Array.eq_empty_of_size_eq_zero h0]
   exact isEmptyV0
  rw [if_pos h0] at hR
  subst hR
  clear h0
  go_enter Tryz.func135, Tryz.ntmps135
  go_wp2_with fail
  go_ret
  exact ⟨rfl, Below.refl _ _⟩
 ·have f0 : s.toList.isEmpty = false := isEmptyV h0
  rw [if_neg h0] at hR
  have HR := Lib.hid hR
  clear h0 hR
  go_enter Tryz.func135, Tryz.ntmps135
  go_wp2_with fail
  refine HG.out.mono ?_
  rintro e1 w1 ⟨⟨k, sz, p, t, d, Aa, Ax, na, nx, ca, cx, rfl, hk⟩, hb⟩
  have HKk := Lib.hid hk
  clear hk
  have HB := Lib.hid hb
  have hF := Blk.new w1 48 [.int .i64 k, .string p, .slice Aa na ca, .string t, .int .i64 sz, .string d, .slice Ax nx cx]
  change Blk (w1.alloc (.cells #[.int .i64 k, .string p, .slice Aa na ca, .string t, .int .i64 sz, .string d, .slice Ax nx cx] 48)) _ _ _ at hF
  have HBz := Lib.hid (HB.out.alloc HB.out.size (.cells #[.int .i64 k, .string p, .slice Aa na ca, .string t, .int .i64 sz, .string d, .slice Ax nx cx] 48))
  have c0 := hF.cell (i := 0) rfl
  clear hb hF HG HB
  cases G with
  | none =>
   have HE : Hid (R = 9) := Lib.hid HR.out.symm
   rw [show (none : Option Ent).isSome = false from rfl]
   go_wp2_with fail
   go_ret
   exact ⟨by rw [HE.out] <;> rfl, HBz.out⟩
  | some y =>
   have HE : Hid (R = if k = 2 then 0 else 10) := Lib.hid (by rw [← HKk.out y rfl]; exact HR.out.symm)
   rw [show (some y).isSome = true from rfl]
   by_cases hk : k = 2
   ·subst hk
    have HF : Hid (R = 0) := Lib.hid (by rw [HE.out, if_pos rfl])
    go_wp2_with fail
    go_ret
    exact ⟨by rw [HF.out] <;> rfl, HBz.out⟩
   ·have f1 : (k != 2) = true := by rw [bne_iff_ne]; exact hk
    have HF : Hid (R = 10) := Lib.hid (by rw [HE.out, if_neg hk])
    clear hk
    go_wp2_with fail
    go_ret
    exact ⟨by rw [HF.out] <;> rfl, HBz.out⟩
theorem held_ex (w : World) (v : Value) (l : List Hol) (hv : SeqAt holS w v l) (hl : ∀ h ∈ l, h.p.size ≤ 1000000) (s : ByteArray) (hs : s.size ≤ 1000000) (date : Int) : Calls Tryz.prog 137 #[v, .string s, .int .i64 date] w fun e w' => e = .returned (.bool (heldH l s date)) ∧ Below w.heap.size w w' := by
 obtain ⟨R, hR⟩ : ∃ R, heldH l s date = R := ⟨_, rfl⟩
 rw [hR]
 have HR := Lib.hid hR
 clear hR
 have Hv := Lib.hid hv
 have HU := Lib.hid (fun (W : World) (h : Hol) (hm : h ∈ l) => under31_ex W s h.p hs (hl h hm))
 obtain ⟨A, c, rfl, h1, h2⟩ := hv.slice
 clear hv hl
 go_enter Tryz.func137, Tryz.ntmps137
 go_wp2
 go_loopw [7] (fun x wr => ∃ i : Nat, i ≤ l.length ∧ x = .int .i64 (i : Int) ∧ Below w.heap.size w wr ∧ heldH (l.drop i) s date = R) (fun x _ => l.length - (intOf x).toNat)
 case atStart => exact ⟨0, by omega, rfl, Below.refl _ _, HR.out⟩
 case round =>
  obtain ⟨i, hi, rfl, hB, hq⟩ := hrel
  have HB := Lib.hid hB
  have HQ := Lib.hid hq
  clear hB hq
  by_cases h : i < l.length
  ·have hiI : (i : Int) < l.length := by omega
   obtain ⟨x, hx⟩ : ∃ x, l[i]? = some x := ⟨_, List.getElem?_eq_getElem h⟩
   obtain ⟨_, _, e9, _, _, h4⟩ := Hv.out.below HB.out
   cases e9
   obtain ⟨b, o, cs, rfl, rfl, hc⟩ := h4 i x hx
   have HUx := Lib.hid (fun W => HU.out W x (List.mem_of_getElem? hx))
   have HD : Hid (R = if date ≤ x.u ∧ undB s x.p = true then true else heldH (l.drop (i + 1)) s date) := Lib.hid (by rw [← HQ.out, held_drop hx])
   have c0 : wr.cell? ⟨b, o + i * 2, none⟩ = some (.string x.p) := hc 0 _ rfl
   have c1 : wr.cell? ⟨b, o + i * 2 + 1, none⟩ = some (.int .i64 x.u) := hc 1 _ rfl
   clear hc h4 hx
   obtain ⟨p, u⟩ := x
   dsimp only at c0 c1 HUx HD
   by_cases hd : date ≤ u
   ·go_wp2_with fail
    refine (HUx.out _).mono ?_
    rintro e2 w2 ⟨rfl, hb2⟩
    have HB2 := Lib.hid (HB.out.trans (hb2.mono HB.out.size))
    clear hb2
    obtain ⟨r, hr⟩ : ∃ r, undB s p = r := ⟨_, rfl⟩
    rw [hr] at HD ⊢
    clear hr
    cases r with
    | true =>
     have HE : Hid (R = true) := Lib.hid (by rw [HD.out, if_pos ⟨hd, rfl⟩])
     go_wp2
     go_ret
     exact ⟨by rw [HE.out] <;> rfl, HB2.out⟩
    | false =>
     have HE : Hid (heldH (l.drop (i + 1)) s date = R) := Lib.hid (by rw [HD.out, if_neg (fun h => by cases h.2)])
     go_wp2
     go_roundw
     case rel => exact ⟨i + 1, by omega, by go_num, HB2.out, HE.out⟩
     case measure => simp [intOf]; omega
   ·have HE : Hid (heldH (l.drop (i + 1)) s date = R) := Lib.hid (by rw [HD.out, if_neg (fun h => hd h.1)])
    go_wp2_with fail
    first | (refine ⟨trivial, ?_⟩; go_wp2) | skip
    go_roundw
    case rel => exact ⟨i + 1, by omega, by go_num, HB.out, HE.out⟩
    case measure => simp [intOf]; omega
  ·have hiI : ¬ (i : Int) < l.length := by omega
   have HE : Hid (R = false) := Lib.hid (by rw [← HQ.out, List.drop_eq_nil_of_le (by omega)]; rfl)
   go_wp2
   go_ret
   exact ⟨by rw [HE.out] <;> rfl, HB.out⟩
theorem active_ex (w : World) (v : Value) (l : List Hol) (hv : SeqAt holS w v l) (hl : l.length ≤ 100000) (date : Int) : Calls Tryz.prog 138 #[v, .int .i64 date] w fun e w' => RetHols w w' (fun m => m = actH l date) e ∧ Below w.heap.size w w' := by
 have Hv := Lib.hid hv
 obtain ⟨iS, hi, hq0, hq1, hq2⟩ := infoV_parts Tryz.infoHolV
 have HiS : Hid (Tryz.prog.info? 196 = some iS ∧ iS.zero = some (.agg #[.string ⟨#[]⟩, .int .i64 0]) ∧ iS.size = 2 ∧ iS.bytes = 24) := Lib.hid ⟨hi, hq0, hq1, hq2⟩
 clear hi hq0 hq1 hq2
 obtain ⟨A, c, rfl, h1, h2⟩ := hv.slice
 clear hv
 go_enter Tryz.func138, Tryz.ntmps138
 go_wp2
 go_loopw [5, 6] (fun y x wr => ∃ (i : Nat) (m : List Hol), i ≤ l.length ∧ x = .int .i64 (i : Int) ∧ m.length ≤ i ∧ m = actH (l.take i) date ∧ OwnSeq holS 196 w wr y m ∧ Below w.heap.size w wr) (fun _ x _ => l.length - (intOf x).toNat)
 case atStart => exact ⟨0, [], by omega, rfl, by simp, rfl, ⟨[], ownV_new _ _ _, .nil⟩, (Below.refl _ _).alloc (Nat.le_refl _) _⟩
 case round =>
  obtain ⟨i, m, hi, rfl, hm, hall, ho, hB⟩ := hrel
  have HB := Lib.hid hB
  have Hall := Lib.hid hall
  obtain ⟨css, ho, hbt⟩ := ho
  have Ho := Lib.hid ho
  have Hbt := Lib.hid hbt
  clear hB hall ho hbt
  obtain ⟨Av, cv, rfl⟩ := ownV_slice Ho.out
  by_cases h : i < l.length
  ·have hiI : (i : Int) < l.length := by omega
   obtain ⟨x, hx⟩ : ∃ x, l[i]? = some x := ⟨_, List.getElem?_eq_getElem h⟩
   have Htk : Hid (actH (l.take (i + 1)) date = actH (l.take i) date ++ (if date ≤ x.u then [x] else [])) := Lib.hid (by rw [List.take_add_one, hx]; exact actH_snoc)
   obtain ⟨_, _, e9, _, _, h4⟩ := Hv.out.below HB.out
   cases e9
   obtain ⟨b, o, cs, rfl, rfl, hc⟩ := h4 i x hx
   have c0 : wr.cell? ⟨b, o + i * 2, none⟩ = some (.string x.p) := hc 0 _ rfl
   have c1 : wr.cell? ⟨b, o + i * 2 + 1, none⟩ = some (.int .i64 x.u) := hc 1 _ rfl
   clear hc h4 hx
   obtain ⟨p, u⟩ := x
   dsimp only at c0 c1 Htk
   by_cases hd : date ≤ u
   ·have HTk : Hid (m ++ [(⟨p, u⟩ : Hol)] = actH (l.take (i + 1)) date) := Lib.hid (by rw [Htk.out, if_pos hd, Hall.out])
    have Hnews : Hid (∀ (q : Nat) (x : Value), ([.string p, .int .i64 u] : List Value)[q]? = some x → (wr.alloc (.cells #[.string p, .int .i64 u] 196)).cell? ((⟨wr.heap.size, 0, none⟩ : Addr).add q) = some x) := Lib.hid (fun q x hq => by
     rw [Addr.add_lit, Nat.zero_add]
     exact (Blk.new wr 196 [.string p, .int .i64 u]).cell hq)
    have Hone : Hid (∀ x ∈ ([.string p, .int .i64 u] : List Value), x.oneCell' = true) := Lib.hid (by simp [Value.oneCell'])
    have HU := Lib.hid (Ho.out.alloc (.cells #[.string p, .int .i64 u] 196))
    have HB6 := Lib.hid (HB.out.alloc HB.out.size (.cells #[.string p, .int .i64 u] 196))
    go_wp2_with (at_builtin; refine append_atV _ rfl _ _ 67 rfl w.heap.size 196 iS (.agg #[.string ⟨#[]⟩, .int .i64 0]) 2 24 Tryz.underlying67 HiS.out.1 HiS.out.2.1 HiS.out.2.2.1 HiS.out.2.2.2 rfl (by omega) (.slice Av m.length cv) m.length _ rfl HU.out ⟨wr.heap.size, 0, none⟩ 1 1 _ rfl rfl Hnews.out Hone.out (by unfold maxLen; omega) (by omega) HB6.out.size ?_; intro va wa hob hgb _; have KU := Lib.hid hob; have KB := Lib.hid (HB6.out.grown hgb HB6.out.size (ownV_ge HU.out)); clear hob hgb)
    go_roundw
    case rel => exact ⟨i + 1, m ++ [⟨p, u⟩], by omega, by go_num, by simp; omega, HTk.out, ⟨css ++ [[.string p, .int .i64 u]], by rw [List.flatten_append, List.length_append]; exact KU.out, Hbt.out.app (.cons (show holS.R w [.string p, .int .i64 u] ⟨p, u⟩ from rfl) .nil)⟩, KB.out⟩
    case measure => simp [intOf]; omega
   ·have HTk : Hid (m = actH (l.take (i + 1)) date) := Lib.hid (by rw [Htk.out, if_neg hd, List.append_nil, Hall.out])
    go_wp2
    go_roundw
    case rel => exact ⟨i + 1, m, by omega, by go_num, by omega, HTk.out, ⟨css, Ho.out, Hbt.out⟩, HB.out⟩
    case measure => simp [intOf]; omega
  ·have hiI : ¬ (i : Int) < l.length := by omega
   have HE : Hid (m = actH l date) := Lib.hid (by rw [Hall.out, List.take_of_length_le (by omega)])
   go_wp2
   go_ret
   exact ⟨⟨_, m, rfl, ⟨css, Ho.out, Hbt.out⟩, HE.out⟩, HB.out⟩
theorem without_ex (w : World) (v : Value) (l : List Hol) (hv : SeqAt holS w v l) (hl : l.length ≤ 100000) (s : ByteArray) : Calls Tryz.prog 140 #[v, .string s] w fun e w' => RetW w w' (wthH l s) (lastU l s) e ∧ Below w.heap.size w w' := by
 have Hv := Lib.hid hv
 obtain ⟨iS, hi, hq0, hq1, hq2⟩ := infoV_parts Tryz.infoHolV
 have HiS : Hid (Tryz.prog.info? 196 = some iS ∧ iS.zero = some (.agg #[.string ⟨#[]⟩, .int .i64 0]) ∧ iS.size = 2 ∧ iS.bytes = 24) := Lib.hid ⟨hi, hq0, hq1, hq2⟩
 clear hi hq0 hq1 hq2
 obtain ⟨A, c, rfl, h1, h2⟩ := hv.slice
 clear hv
 go_enter Tryz.func140, Tryz.ntmps140
 go_wp2
 go_loopw [6, 7, 8] (fun y z x wr => ∃ (i : Nat) (m : List Hol) (q : Int), z = .int .i64 q ∧ i ≤ l.length ∧ x = .int .i64 (i : Int) ∧ m.length ≤ i ∧ (m = wthH (l.take i) s ∧ q = lastU (l.take i) s) ∧ OwnSeq holS 196 w wr y m ∧ Below w.heap.size w wr) (fun _ _ x _ => l.length - (intOf x).toNat)
 case atStart => exact ⟨0, [], -1, rfl, by omega, rfl, by simp, ⟨rfl, rfl⟩, ⟨[], ownV_new _ _ _, .nil⟩, (Below.refl _ _).alloc (Nat.le_refl _) _⟩
 case round =>
  obtain ⟨i, m, q0, rfl, hi, rfl, hm, hall, ho, hB⟩ := hrel
  have HB := Lib.hid hB
  have Hall := Lib.hid hall
  obtain ⟨css, ho, hbt⟩ := ho
  have Ho := Lib.hid ho
  have Hbt := Lib.hid hbt
  clear hB hall ho hbt
  obtain ⟨Av, cv, rfl⟩ := ownV_slice Ho.out
  by_cases h : i < l.length
  ·have hiI : (i : Int) < l.length := by omega
   obtain ⟨x, hx⟩ : ∃ x, l[i]? = some x := ⟨_, List.getElem?_eq_getElem h⟩
   have Htk : Hid (wthH (l.take (i + 1)) s = wthH (l.take i) s ++ (if x.p = s then [] else [x]) ∧ lastU (l.take (i + 1)) s = if x.p = s then x.u else lastU (l.take i) s) := Lib.hid (by rw [List.take_add_one, hx]; exact wth_snoc)
   obtain ⟨_, _, e9, _, _, h4⟩ := Hv.out.below HB.out
   cases e9
   obtain ⟨b, o, cs, rfl, rfl, hc⟩ := h4 i x hx
   have c0 : wr.cell? ⟨b, o + i * 2, none⟩ = some (.string x.p) := hc 0 _ rfl
   have c1 : wr.cell? ⟨b, o + i * 2 + 1, none⟩ = some (.int .i64 x.u) := hc 1 _ rfl
   clear hc h4 hx
   obtain ⟨p, u⟩ := x
   dsimp only at c0 c1 Htk
   by_cases hps : ¬ p = s
   ·have HTk : Hid (m ++ [(⟨p, u⟩ : Hol)] = wthH (l.take (i + 1)) s ∧ q0 = lastU (l.take (i + 1)) s) := Lib.hid (by rw [Htk.out.1, Htk.out.2, if_neg hps, if_neg hps, Hall.out.1]; exact ⟨rfl, Hall.out.2⟩)
    have b3 : ¬ p.toList = s.toList := fun e => hps (by rw [ByteArray.toList_eq, ByteArray.toList_eq] at e; exact ByteArray.ext (Array.toList_inj.1 e))
    have b4 : (p.toList == s.toList) = false := by rw [beq_eq_false_iff_ne]; exact b3
    clear hps
    have Hnews : Hid (∀ (q : Nat) (x : Value), ([.string p, .int .i64 u] : List Value)[q]? = some x → (wr.alloc (.cells #[.string p, .int .i64 u] 196)).cell? ((⟨wr.heap.size, 0, none⟩ : Addr).add q) = some x) := Lib.hid (fun q x hq => by
     rw [Addr.add_lit, Nat.zero_add]
     exact (Blk.new wr 196 [.string p, .int .i64 u]).cell hq)
    have Hone : Hid (∀ x ∈ ([.string p, .int .i64 u] : List Value), x.oneCell' = true) := Lib.hid (by simp [Value.oneCell'])
    have HU := Lib.hid (Ho.out.alloc (.cells #[.string p, .int .i64 u] 196))
    have HB6 := Lib.hid (HB.out.alloc HB.out.size (.cells #[.string p, .int .i64 u] 196))
    go_wp2_with (at_builtin; refine append_atV _ rfl _ _ 67 rfl w.heap.size 196 iS (.agg #[.string ⟨#[]⟩, .int .i64 0]) 2 24 Tryz.underlying67 HiS.out.1 HiS.out.2.1 HiS.out.2.2.1 HiS.out.2.2.2 rfl (by omega) (.slice Av m.length cv) m.length _ rfl HU.out ⟨wr.heap.size, 0, none⟩ 1 1 _ rfl rfl Hnews.out Hone.out (by unfold maxLen; omega) (by omega) HB6.out.size ?_; intro va wa hob hgb _; have KU := Lib.hid hob; have KB := Lib.hid (HB6.out.grown hgb HB6.out.size (ownV_ge HU.out)); clear hob hgb)
    go_roundw
    case rel => exact ⟨i + 1, m ++ [⟨p, u⟩], q0, rfl, by omega, by go_num, by simp; omega, HTk.out, ⟨css ++ [[.string p, .int .i64 u]], by rw [List.flatten_append, List.length_append]; exact KU.out, Hbt.out.app (.cons (show holS.R w [.string p, .int .i64 u] ⟨p, u⟩ from rfl) .nil)⟩, KB.out⟩
    case measure => simp [intOf]; omega
   ·obtain rfl : p = s := by simpa using hps
    have HTk : Hid (m = wthH (l.take (i + 1)) p ∧ u = lastU (l.take (i + 1)) p) := Lib.hid (by rw [Htk.out.1, Htk.out.2, if_pos rfl, if_pos rfl, List.append_nil]; exact ⟨Hall.out.1, rfl⟩)
    clear hps
    go_wp2
    go_roundw
    case rel => exact ⟨i + 1, m, u, rfl, by omega, by go_num, by omega, HTk.out, ⟨css, Ho.out, Hbt.out⟩, HB.out⟩
    case measure => simp [intOf]; omega
  ·have hiI : ¬ (i : Int) < l.length := by omega
   have HE : Hid (m = wthH l s ∧ q0 = lastU l s) := Lib.hid (by have h6 := Hall.out; rw [List.take_of_length_le (by omega)] at h6; exact h6)
   go_wp2
   go_ret2
   rw [← HE.out.1, ← HE.out.2]
   exact ⟨⟨_, rfl, ⟨css, Ho.out, Hbt.out⟩⟩, HB.out⟩
end
end Go.Proofs.YtbccghbngaiceaaGreatDoor
