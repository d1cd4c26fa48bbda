/-
  Joined: MgF.
-/
import Derived.Test.YtbccghbngaiceaaGreatDoorMMn20
import Derived.Test.YtbccghbngaiceaaGreatDoorMMn36
set_option linter.all false
set_option maxRecDepth 100000
set_option maxHeartbeats 64000000
namespace Go.Proofs.YtbccghbngaiceaaGreatDoor
section
open Go.RowKit
theorem SesG.s {x : Ses} (h : SesG x) : SesS x := ⟨h.prev, h.str, h.sig, h.ents, fun e he => ⟨(h.each e he).1, (h.each e he).2.1⟩⟩
structure SesW (x : Ses) : Prop where
 num : 1 ≤ x.num ∧ x.num ≤ 255
 date : 0 ≤ x.date ∧ x.date ≤ 1000000000
 prev : x.prev.size = 0 ∨ x.prev.size = 32
 str : x.str.size ≤ 14680064
 ents : x.ents.length ≤ 12
 ok : ∀ e ∈ x.ents, EntOk e
 sig : x.sig.size ≤ 2000
theorem SesG.w {x : Ses} (h : SesG x) (h0 : sgnE x = 0) : SesW x :=
 ⟨(fldE_0 (sgnE_0 h0).1).1, (fldE_0 (sgnE_0 h0).1).2.1, (fldE_0 (sgnE_0 h0).1).2.2, h.str, h.ents, (sgnE_0 h0).2.1, (sgnE_0 h0).2.2⟩
theorem signL_lenW {x : Ses} (z : SesW x) : (signL x).length ≤ 51001000 := by
 obtain ⟨g1, g2, g3, hstr, hen, hok, _⟩ := z
 have h1 := numL_len x.num.toNat (by omega)
 have h2 := numL_len x.date.toNat (by omega)
 have h3 := nstL_len x.prev (by omega)
 have h4 := numL_len x.str.size (by omega)
 have h5 := nstL_len (strB (digL (bs x.str))) (by rw [strB_size, digL_len]; decide)
 have h6 := numL_len x.ents.length (by omega)
 have h7 := entsL_len hok
 have h8 := Nat.mul_le_mul hen (Nat.le_refl 4200000)
 rw [strB_size] at h1 h2 h3 h4 h5 h6
 rw [strB_size, digL_len] at h5
 rw [signL]
 simp only [List.length_append]
 omega
theorem check40_ex (w : World) (x : Ses) (ve : Value) (hve : SeqAt entS w ve x.ents) (z : SesG x) : Calls Tryz.prog 125 #[.agg #[.int .i64 x.num, .int .i64 x.date, .string x.prev, ve, .string x.str, .string x.sig]] w fun r w' => r = .returned (.int .i64 (sgnE x)) ∧ Below w.heap.size w w' := by
 obtain ⟨R, hR⟩ : ∃ R, sgnE x = R := ⟨_, rfl⟩
 rw [hR]
 rw [sgnE, fldE] at hR
 have hstr := z.str
 have hen := z.ents
 have Hok := Lib.hid z.each
 clear z
 obtain ⟨num, date, prev, l, st, sg⟩ := x
 dsimp only at hve hstr hen Hok hR ⊢
 have HR := Lib.hid hR
 clear hR
 have Hve := Lib.hid hve
 obtain ⟨Ae, ce, rfl, he1, he2⟩ := hve.slice
 generalize hne : l.length = ne at *
 have Hne := Lib.hid hne
 clear hve hne
 have hK := Blk.new w 43 [.int .i64 num, .int .i64 date, .string prev, .slice Ae ne ce, .string st, .string sg]
 change Blk (w.alloc (.cells #[.int .i64 num, .int .i64 date, .string prev, .slice Ae ne ce, .string st, .string sg] 43)) _ _ _ at hK
 have HB1 := Lib.hid ((Below.refl w.heap.size w).alloc (Nat.le_refl _) (.cells #[.int .i64 num, .int .i64 date, .string prev, .slice Ae ne ce, .string st, .string sg] 43))
 have HK1 := Lib.hid hK
 clear hK
 have i5 : ¬ (14680064 : Int) < st.size := by omega
 have i6 : ¬ (400 : Int) < ne := by omega
 go_enter Tryz.func125, Tryz.ntmps125
 go_upto_region 1 with fail
 generalize w.alloc (.cells #[.int .i64 num, .int .i64 date, .string prev, .slice Ae ne ce, .string st, .string sg] 43) = wb at *
 have c0 := HK1.out.cell (i := 0) rfl
 have c1 := HK1.out.cell (i := 1) rfl
 have c2 := HK1.out.cell (i := 2) rfl
 have c3 := HK1.out.cell (i := 3) rfl
 have c4 := HK1.out.cell (i := 4) rfl
 by_cases i1 : num < 1
 ·have HE : Hid (R = 2) := Lib.hid (by rw [← HR.out, if_pos (show num < 1 ∨ 255 < num ∨ date < 0 ∨ 1000000000 < date from .inl i1)] <;> rfl)
  go_wp2_with fail
  go_ret
  exact ⟨by rw [HE.out] <;> rfl, HB1.out⟩
 by_cases i2 : 255 < num
 ·have HE : Hid (R = 2) := Lib.hid (by rw [← HR.out, if_pos (show num < 1 ∨ 255 < num ∨ date < 0 ∨ 1000000000 < date from .inr (.inl i2))] <;> rfl)
  go_wp2_with fail
  go_ret
  exact ⟨by rw [HE.out] <;> rfl, HB1.out⟩
 by_cases i3 : date < 0
 ·have HE : Hid (R = 2) := Lib.hid (by rw [← HR.out, if_pos (show num < 1 ∨ 255 < num ∨ date < 0 ∨ 1000000000 < date from .inr (.inr (.inl i3)))] <;> rfl)
  go_wp2_with fail
  go_ret
  exact ⟨by rw [HE.out] <;> rfl, HB1.out⟩
 by_cases i4 : 1000000000 < date
 ·have HE : Hid (R = 2) := Lib.hid (by rw [← HR.out, if_pos (show num < 1 ∨ 255 < num ∨ date < 0 ∨ 1000000000 < date from .inr (.inr (.inr i4)))] <;> rfl)
  go_wp2_with fail
  go_ret
  exact ⟨by rw [HE.out] <;> rfl, HB1.out⟩
 have HR := Lib.hid HR.out
 rw [if_neg (show ¬ (num < 1 ∨ 255 < num ∨ date < 0 ∨ 1000000000 < date) by omega)] at HR
 obtain ⟨bad, hbad⟩ : ∃ b, decide (prev.size ≠ 0 ∧ prev.size ≠ 32) = b := ⟨_, rfl⟩
 have Hbad := Lib.hid hbad
 have hp2 : (((prev.size : Int) != 0) = false ∧ bad = false) ∨ (((prev.size : Int) != 0) = true ∧ ((prev.size : Int) != 32) = bad) := by
  by_cases p0 : prev.size = 0
  ·exact .inl ⟨by rw [p0]; rfl, by rw [← hbad]; exact decide_eq_false fun q => q.1 p0⟩
  ·refine .inr ⟨by rw [bne_iff_ne]; omega, ?_⟩
   by_cases p1 : prev.size = 32
   ·rw [← hbad, decide_eq_false (fun q => q.2 p1), p1]; rfl
   ·rw [← hbad, decide_eq_true ⟨p0, p1⟩, bne_iff_ne]; omega
 clear hbad
 go_upto_region 3 with fail
 go_cut [32] (fun s wx => s = .bool bad ∧ wb = wx)
 case first =>
  rcases hp2 with ⟨f1, f2⟩ | ⟨f1, f2⟩
  ·have HF := Lib.hid f2
   clear f2
   go_wp2_with fail
   go_meet
   exact ⟨by rw [HF.out] <;> rfl, rfl⟩
  ·go_wp2_with fail
   go_meet
   exact ⟨rfl, rfl⟩
 case rest =>
  obtain ⟨rfl, rfl⟩ := hcut
  clear hp2
  cases bad with
  | true =>
   have HE : Hid (R = 1) := Lib.hid (by rw [← HR.out, if_pos (of_decide_eq_true Hbad.out)] <;> rfl)
   go_wp2_with fail
   go_ret
   exact ⟨by rw [HE.out] <;> rfl, HB1.out⟩
  | false =>
  have HR := Lib.hid HR.out
  rw [if_neg (of_decide_eq_false Hbad.out), if_neg (by decide)] at HR
  go_wp2
  go_loopw [3, 4] (fun x _ wr => ∃ i : Nat, i ≤ ne ∧ x = .int .i64 (i : Int) ∧ Below wb.heap.size wb wr ∧ entsE (l.drop i) = entsE l) (fun x _ _ => ne - (intOf x).toNat)
  case atStart => exact ⟨0, by omega, rfl, Below.refl _ _, rfl⟩
  case round =>
   obtain ⟨i, hi, rfl, hB, hq⟩ := hrel
   have HQ := Lib.hid hq
   clear hq
   have HB := Lib.hid hB
   clear hB c0 c1 c2 c3 c4
   by_cases h : i < ne
   ·have hiI : (i : Int) < ne := by omega
    have hlt : i < l.length := by have := Hne.out; omega
    obtain ⟨x, hx'⟩ : ∃ x, l[i]? = some x := ⟨_, List.getElem?_eq_getElem hlt⟩
    have Hxo := Lib.hid (Hok.out x (List.mem_of_getElem? hx'))
    have Hx' := Lib.hid hx'
    have HD : Hid (entsE l = if enE x ≠ 0 then enE x else entsE (l.drop (i + 1))) := Lib.hid (by
     obtain ⟨h1, h2⟩ := List.getElem?_eq_some_iff.1 hx'
     rw [← HQ.out, List.drop_eq_getElem_cons h1, entsE_cons, h2])
    obtain ⟨_, _, e9, _, _, h4⟩ := Hve.out.below (HB1.out.trans (HB.out.mono HB1.out.size))
    rw [Hne.out] at e9
    cases e9
    obtain ⟨b, o, cs, rfl, hR9, hc⟩ := h4 i x hx'
    obtain ⟨va, vx, rfl, hva, hvx⟩ := hR9
    obtain ⟨Aa, ca, rfl, _, _⟩ := hva.slice
    obtain ⟨Ax, cx, rfl, _, _⟩ := hvx.slice
    have e0 : wr.cell? ⟨b, o + i * 7, none⟩ = some (.int .i64 x.k) := hc 0 _ rfl
    have e1 : wr.cell? ⟨b, o + i * 7 + 1, none⟩ = some (.string x.path) := hc 1 _ rfl
    have e2 : wr.cell? ⟨b, o + i * 7 + 2, none⟩ = some (.slice Aa x.attrs.length ca) := hc 2 _ rfl
    have e3 : wr.cell? ⟨b, o + i * 7 + 3, none⟩ = some (.string x.tgt) := hc 3 _ rfl
    have e4 : wr.cell? ⟨b, o + i * 7 + 4, none⟩ = some (.int .i64 x.size) := hc 4 _ rfl
    have e5 : wr.cell? ⟨b, o + i * 7 + 5, none⟩ = some (.string x.dig) := hc 5 _ rfl
    have e6 : wr.cell? ⟨b, o + i * 7 + 6, none⟩ = some (.slice Ax x.exts.length cx) := hc 6 _ rfl
    have HKr := Lib.hid (HK1.out.kept HB.out)
    have c3 := HKr.out.cell (i := 3) rfl
    have Hva := Lib.hid hva
    have Hvx := Lib.hid hvx
    clear hc h4 hx' hva hvx
    have HCk := Lib.hid (check36_ex wr x _ _ Hva.out Hvx.out (by have := Hxo.out.1; omega) (by have := Hxo.out.2.1; omega) (fun a ha => by have := Hxo.out.2.2.1 a ha; omega) (by have := Hxo.out.2.2.2; omega))
    rw [entV] at HCk
    go_wp2_with fail
    refine HCk.out.mono ?_
    rintro e2 w2 ⟨rfl, hb2⟩
    obtain ⟨n, hn⟩ : ∃ n, enE x = n := ⟨_, rfl⟩
    rw [hn] at HD ⊢
    have HB2 := Lib.hid (HB.out.trans (hb2.mono HB.out.size))
    clear hb2 hn
    by_cases n0 : n = 0
    ·subst n0
     have HE : Hid (entsE (l.drop (i + 1)) = entsE l) := Lib.hid (by rw [HD.out, if_neg (by decide)])
     go_wp2_with fail
     go_roundw
     case rel => exact ⟨i + 1, by omega, by go_num, HB2.out, HE.out⟩
     case measure => simp [intOf]; omega
    ·have b1 : (n != 0) = true := by rw [bne_iff_ne]; exact n0
     have HE : Hid (R = n) := Lib.hid (by
      have h9 := HD.out
      rw [if_pos n0] at h9
      rw [← HR.out, h9, if_pos n0])
     clear n0
     go_wp2_with fail
     go_ret
     exact ⟨by rw [HE.out] <;> rfl, HB1.out.trans (HB2.out.mono HB1.out.size)⟩
   ·obtain rfl : i = ne := by omega
    have hiI : ¬ ((i : Nat) : Int) < (i : Int) := by omega
    have HKr := Lib.hid (HK1.out.kept HB.out)
    have c3 := HKr.out.cell (i := 3) rfl
    have c5 := HKr.out.cell (i := 5) rfl
    have HR := Lib.hid HR.out
    rw [← HQ.out, List.drop_eq_nil_of_le (by have := Hne.out; omega), show entsE [] = 0 from rfl, if_neg (by decide)] at HR
    by_cases i7 : (2000 : Int) < sg.size
    ·have HE : Hid (R = 6) := Lib.hid (by rw [← HR.out, if_pos (by omega)])
     go_wp2
     go_ret
     exact ⟨by rw [HE.out] <;> rfl, HB1.out.trans (HB.out.mono HB1.out.size)⟩
    ·have HE : Hid (R = 0) := Lib.hid (by rw [← HR.out, if_neg (by omega)])
     go_wp2
     go_ret
     exact ⟨by rw [HE.out] <;> rfl, HB1.out.trans (HB.out.mono HB1.out.size)⟩
theorem digits40_any (w : World) (n : Nat) (hn : n < 9223372036854775808) : Calls Tryz.prog 127 #[.int .i64 (n : Int)] w fun e w' => e = .returned (.string (strB (dig8 n))) ∧ w = w' := by
 obtain ⟨R, hR⟩ : ∃ R, strB (dig8 n) = R := ⟨_, rfl⟩
 rw [hR]
 have HR := Lib.hid hR
 clear hR
 go_enter Tryz.func127, Tryz.ntmps127
 go_wp2
 go_loopw [0, 3, 4] (fun a y x wr => ∃ (k m : Nat) (Y : ByteArray), k ≤ 8 ∧ x = .int .i64 (k : Int) ∧ m = n / 10 ^ k ∧ a = .int .i64 (m : Int) ∧ y = .string Y ∧ Y = strB (digK k (n % 10 ^ k)) ∧ w = wr) (fun _ _ x _ => 8 - (intOf x).toNat)
 case atStart => exact ⟨0, n, ⟨#[]⟩, by omega, rfl, by simp, rfl, rfl, rfl, rfl⟩
 case round =>
  obtain ⟨k, m, Y, hk, rfl, hm, rfl, rfl, hY, rfl⟩ := hrel
  have hYz : Y.size = k := by rw [hY, strB_size]; simp [digK]
  have Hm := Lib.hid hm
  have HY := Lib.hid hY
  have hml : m < 9223372036854775808 := by rw [hm]; exact Nat.lt_of_le_of_lt (Nat.div_le_self _ _) hn
  clear hm hY
  by_cases h : k < 8
  ·have hkI : (k : Int) < 8 := by omega
   obtain ⟨r, hr⟩ : ∃ r, m % 10 = r := ⟨_, rfl⟩
   obtain ⟨q, hq⟩ : ∃ q, m / 10 = q := ⟨_, rfl⟩
   have hrI : Int.tmod (m : Int) 10 = r := by rw [Int.tmod_eq_emod_of_nonneg (by omega)]; omega
   have hqI : Int.tdiv (m : Int) 10 = q := by rw [Int.tdiv_eq_ediv_of_nonneg (by omega)]; omega
   have hrE : (m : Int) % 10 = r := by omega
   have hqE : (m : Int) / 10 = q := by omega
   have hr10 : r < 10 := by omega
   obtain ⟨T, hT⟩ : ∃ T, (⟨#[48, 49, 50, 51, 52, 53, 54, 55, 56, 57]⟩ : ByteArray).extract r (r + 1) = T := ⟨_, rfl⟩
   have hTs : T = strB [48 + r] := by
    rw [← hT]
    have : r = 0 ∨ r = 1 ∨ r = 2 ∨ r = 3 ∨ r = 4 ∨ r = 5 ∨ r = 6 ∨ r = 7 ∨ r = 8 ∨ r = 9 := by omega
    rcases this with rfl | rfl | rfl | rfl | rfl | rfl | rfl | rfl | rfl | rfl <;> rfl
   have hTz : T.size = 1 := by rw [hTs, strB_size]; rfl
   have hcc : ¬ 9223372036854775807 < T.size + Y.size := by omega
   have HQ : Hid (q = n / 10 ^ (k + 1)) := Lib.hid (by rw [← hq, Hm.out, Nat.div_div_eq_div_mul, ← Nat.pow_succ])
   have HN : Hid (T ++ Y = strB (digK (k + 1) (n % 10 ^ (k + 1)))) := Lib.hid (by
    have e1 : n % 10 ^ (k + 1) / 10 ^ k = r := by
     rw [Nat.pow_succ, Nat.mod_mul_right_div_self, ← Hm.out, hr]
    have e2 : n % 10 ^ (k + 1) % 10 ^ k = n % 10 ^ k := Nat.mod_mod_of_dvd _ (Nat.pow_dvd_pow 10 (Nat.le_succ k))
    have key : ∀ (k m : Nat), digK (k + 1) m = [48 + m / 10 ^ k % 10] ++ digK k (m % 10 ^ k) := fun k m => by
     unfold digK
     rw [List.range_succ_eq_map, List.map_cons, List.map_map, List.singleton_append]
     congr 1
     refine List.map_congr_left fun i hi => ?_
     have hi := List.mem_range.1 hi
     show 48 + m / 10 ^ (k + 1 - 1 - (i + 1)) % 10 = _
     rw [show k + 1 - 1 - (i + 1) = k - 1 - i by omega]
     congr 1
     have e : 10 ^ k = 10 ^ (k - 1 - i) * (10 * 10 ^ i) := by
      rw [show 10 * 10 ^ i = 10 ^ (i + 1) by rw [Nat.pow_succ, Nat.mul_comm], ← Nat.pow_add]
      congr 1
      omega
     rw [e, Nat.mod_mul_right_div_self, Nat.mod_mul_right_mod]
    rw [hTs, HY.out, strB_cat, key k, e1, e2, Nat.mod_eq_of_lt hr10])
   clear hTs hr hq
   go_wp2
   go_roundw
   case rel => exact ⟨k + 1, q, _, by omega, by go_num, HQ.out, rfl, rfl, HN.out, by first | rfl | trivial⟩
   case measure => simp [intOf]; omega
  ·obtain rfl : k = 8 := by omega
   have hkI : ¬ ((8 : Nat) : Int) < 8 := by omega
   have HE : Hid (Y = R) := Lib.hid (by
    rw [HY.out, ← HR.out, dig8]
    congr 1
    unfold digK
    refine List.map_congr_left fun i hi => ?_
    have hi := List.mem_range.1 hi
    congr 1
    have e : 10 ^ 8 = 10 ^ (8 - 1 - i) * (10 * 10 ^ i) := by
     rw [show 10 * 10 ^ i = 10 ^ (i + 1) by rw [Nat.pow_succ, Nat.mul_comm], ← Nat.pow_add]
     congr 1
     omega
    rw [e, Nat.mod_mul_right_div_self, Nat.mod_mul_right_mod])
   go_wp2
   go_ret
   exact ⟨by rw [HE.out] <;> rfl, rfl⟩
theorem signed40_ex (w : World) (x : Ses) (ve : Value) (hve : SeqAt entS w ve x.ents) (h : SesW x) : Calls Tryz.prog 64 #[.agg #[.int .i64 x.num, .int .i64 x.date, .string x.prev, ve, .string x.str, .string x.sig]] w fun r w' => r = .returned (.string (strB (signL x))) ∧ Below w.heap.size w w' := by
 have HSt : Hid (∀ (W : World) (s : ByteArray), s.size ≤ 100000000 → Calls Tryz.prog 126 #[.string s] W fun e w' => e = .returned (.string (strB (nstL (bs s)))) ∧ W = w') := Lib.hid (fun W s hs => nstring_any W s (by omega))
 have HNu : Hid (∀ (W : World) (n : Nat), n < 9223372036854775808 → Calls Tryz.prog 130 #[.int .i64 (n : Int)] W fun e w' => e = .returned (.string (strB (numL n))) ∧ W = w') := Lib.hid (fun W n hn => number_any W n hn)
 obtain ⟨R, hR⟩ : ∃ R, signL x = R := ⟨_, rfl⟩
 rw [hR]
 rw [signL] at hR
 have hnum := h.num
 have hdate := h.date
 have hprev := h.prev
 have hstr := h.str
 have hen := h.ents
 have Hok := Lib.hid h.ok
 clear h
 obtain ⟨num, date, prev, l, st, sg⟩ := x
 dsimp only at hve hnum hdate hprev hstr hen Hok hR ⊢
 obtain ⟨num, rfl⟩ : ∃ z : Nat, num = (z : Int) := ⟨num.toNat, by omega⟩
 obtain ⟨date, rfl⟩ : ∃ z : Nat, date = (z : Int) := ⟨date.toNat, by omega⟩
 rw [Int.toNat_natCast, Int.toNat_natCast] at hR
 obtain ⟨D, hD⟩ : ∃ D, strB (digL (bs st)) = D := ⟨_, rfl⟩
 have hDz : D.size = 32 := by rw [← hD, strB_size, digL_len]
 have hDz2 : D.size ≤ 32 := by omega
 rw [hD] at hR
 have HSm : Hid (∀ W : World, Calls Tryz.prog 63 #[.string st] W fun e w' => e = .returned (.string D) ∧ Below W.heap.size W w') := Lib.hid (fun W => by rw [← hD]; exact digest_any comp_spec W st (by omega))
 have Hve := Lib.hid hve
 obtain ⟨Ae, ce, rfl, he1, he2⟩ := hve.slice
 generalize hne : l.length = ne at *
 have Hne := Lib.hid hne
 have HR := Lib.hid hR
 have hpz : prev.size ≤ 32 := by omega
 clear hve hne hD hDz hR hprev
 have hK := Blk.new w 43 [.int .i64 (num : Int), .int .i64 (date : Int), .string prev, .slice Ae ne ce, .string st, .string sg]
 change Blk (w.alloc (.cells #[.int .i64 (num : Int), .int .i64 (date : Int), .string prev, .slice Ae ne ce, .string st, .string sg] 43)) _ _ _ at hK
 have HKc := Lib.hid hK.drewV
 have HB0 := (Below.refl w.heap.size w).alloc (Nat.le_refl _) (.cells #[.int .i64 (num : Int), .int .i64 (date : Int), .string prev, .slice Ae ne ce, .string st, .string sg] 43)
 have HBc := Lib.hid HB0.drew
 have q1 := numL_len num (by omega)
 have q2 := numL_len date (by omega)
 have q3 := nstL_len prev (by omega)
 have q4 := numL_len st.size (by omega)
 have q5 := nstL_len D (by omega)
 have q6 := numL_len ne (by omega)
 have hc1 : ¬ 9223372036854775807 < (strB (numL num)).size + (strB (numL date)).size := by omega
 have hc2 : ¬ 9223372036854775807 < (strB (numL num)).size + (strB (numL date)).size + (strB (nstL (bs prev))).size := by omega
 have hc3 : ¬ 9223372036854775807 < (strB (numL num)).size + (strB (numL date)).size + (strB (nstL (bs prev))).size + (strB (numL st.size)).size := by omega
 have hc4 : ¬ 9223372036854775807 < (strB (numL num)).size + (strB (numL date)).size + (strB (nstL (bs prev))).size + (strB (numL st.size)).size + (strB (nstL (bs D))).size := by omega
 have hc5 : ¬ 9223372036854775807 < (strB (numL num)).size + (strB (numL date)).size + (strB (nstL (bs prev))).size + (strB (numL st.size)).size + (strB (nstL (bs D))).size + (strB (numL ne)).size := by omega
 have HX : Hid (strB (numL num) ++ strB (numL date) ++ strB (nstL (bs prev)) ++ strB (numL st.size) ++ strB (nstL (bs D)) ++ strB (numL ne) = strB (numL num ++ numL date ++ nstL (bs prev) ++ (numL st.size ++ nstL (bs D) ++ numL ne))) := Lib.hid (by
  rw [strB_cat, strB_cat, strB_cat, strB_cat, strB_cat]
  congr 1
  simp only [List.append_assoc])
 have HXz : Hid ((strB (numL num ++ numL date ++ nstL (bs prev) ++ (numL st.size ++ nstL (bs D) ++ numL ne))).size ≤ 1000) := Lib.hid (by rw [← HX.out]; simp only [ByteArray.size_append]; omega)
 clear hK HB0
 go_enter Tryz.func64, Tryz.ntmps64
 go_upto_region 1 with fail
 generalize w.alloc (.cells #[.int .i64 (num : Int), .int .i64 (date : Int), .string prev, .slice Ae ne ce, .string st, .string sg] 43) = wa at *
 go_cut [3] (fun s wx => s = .string (strB (numL num) ++ strB (numL date) ++ strB (nstL (bs prev)) ++ strB (numL st.size) ++ strB (nstL (bs D)) ++ strB (numL ne)) ∧ Blk wx w.heap.size 43 [.int .i64 (num : Int), .int .i64 (date : Int), .string prev, .slice Ae ne ce, .string st, .string sg] ∧ Below w.heap.size w wx)
 case first =>
  refine wp_region_held_drew (S := (fun W => W.cell? ⟨w.heap.size, 0, none⟩ = some (.int .i64 (num : Int)) ∧ W.cell? ⟨w.heap.size, 1, none⟩ = some (.int .i64 (date : Int)) ∧ W.cell? ⟨w.heap.size, 2, none⟩ = some (.string prev) ∧ W.cell? ⟨w.heap.size, 3, none⟩ = some (.slice Ae ne ce) ∧ W.cell? ⟨w.heap.size, 4, none⟩ = some (.string st) ∧ W.cell? ⟨w.heap.size, 5, none⟩ = some (.string sg))) (by kernel_rfl) ?_ (fun hHeld => ?_)
  ·exact ⟨HKc.out.cell (i := 0) rfl, HKc.out.cell (i := 1) rfl, HKc.out.cell (i := 2) rfl, HKc.out.cell (i := 3) rfl, HKc.out.cell (i := 4) rfl, HKc.out.cell (i := 5) rfl⟩
  refine tk 0 ?_
  refine tk 1 ?_
  refine take_call (i := 2) (oi := _) (v := (.string (strB (numL num)))) rfl (by kernel_rfl) (by kernel_rfl) (by kernel_rfl) (fun _ _ _ h => h) (And.intro (by rfl) ?hy3) (by assumption) ?rest3
  case hy3 =>
   intro W hSw
   exact ⟨130, #[.int .i64 (num : Int)], by go_simp, HNu.out W num (by omega)⟩
  try simp only [Act.put, List.setIfInBounds_toArray, List.set_cons_zero, List.set_cons_succ]
  try simp only [List.getElem_toArray, List.getElem_cons_zero, List.getElem_cons_succ]
  refine tk 3 ?_
  refine tk 4 ?_
  refine take_call (i := 5) (oi := _) (v := (.string (strB (numL date)))) rfl (by kernel_rfl) (by kernel_rfl) (by kernel_rfl) (fun _ _ _ h => h) (And.intro (by rfl) ?hy6) (by assumption) ?rest6
  case hy6 =>
   intro W hSw
   exact ⟨130, #[.int .i64 (date : Int)], by go_simp, HNu.out W date (by omega)⟩
  try simp only [Act.put, List.setIfInBounds_toArray, List.set_cons_zero, List.set_cons_succ]
  try simp only [List.getElem_toArray, List.getElem_cons_zero, List.getElem_cons_succ]
  refine tk 6 ?_
  refine tk 7 ?_
  refine tk 8 ?_
  refine take_call (i := 9) (oi := _) (v := (.string (strB (nstL (bs prev))))) rfl (by kernel_rfl) (by kernel_rfl) (by kernel_rfl) (fun _ _ _ h => h) (And.intro (by rfl) ?hy10) (by assumption) ?rest10
  case hy10 =>
   intro W hSw
   exact ⟨126, #[.string prev], by go_simp, HSt.out W prev (by omega)⟩
  try simp only [Act.put, List.setIfInBounds_toArray, List.set_cons_zero, List.set_cons_succ]
  try simp only [List.getElem_toArray, List.getElem_cons_zero, List.getElem_cons_succ]
  refine tk 10 ?_
  refine tk 11 ?_
  refine tk 12 ?_
  refine tk 13 ?_
  refine take_call (i := 14) (oi := _) (v := (.string (strB (numL st.size)))) rfl (by kernel_rfl) (by kernel_rfl) (by kernel_rfl) (fun _ _ _ h => h) (And.intro (by rfl) ?hy15) (by assumption) ?rest15
  case hy15 =>
   intro W hSw
   exact ⟨130, #[.int .i64 (st.size : Int)], by go_simp, HNu.out W st.size (by omega)⟩
  try simp only [Act.put, List.setIfInBounds_toArray, List.set_cons_zero, List.set_cons_succ]
  try simp only [List.getElem_toArray, List.getElem_cons_zero, List.getElem_cons_succ]
  refine tk 15 ?_
  refine tk 16 ?_
  refine tk 17 ?_
  refine tk 21 ?_
  refine tk 22 ?_
  refine tk 23 ?_
  refine wpAnyH_ready (rs := [18]) (by kernel_rfl) (by simp) ?_
  refine AllReadyH.cons (o := _) rfl (fun K hK => ?_) ?_
  ·go_simp
   refine (HSm.out _).mono ?_
   rintro e2 w2 ⟨rfl, hb2⟩
   (try go_wp2_with fail)
   have HKc := Lib.hid (HKc.out.kept hb2)
   have HBc := Lib.hid (HBc.out.trans (hb2.mono HBc.out.size))
   clear hb2
   refine hko hK (by exact ⟨HKc.out.cell (i := 0) rfl, HKc.out.cell (i := 1) rfl, HKc.out.cell (i := 2) rfl, HKc.out.cell (i := 3) rfl, HKc.out.cell (i := 4) rfl, HKc.out.cell (i := 5) rfl⟩) (fun _ => ?_)
   clear hK K
   refine take_call (i := 19) (oi := _) (v := (.string (strB (nstL (bs D))))) rfl (by kernel_rfl) (by kernel_rfl) (by kernel_rfl) (fun _ _ _ h => h) (And.intro (by rfl) ?hy22) (by assumption) ?rest22
   case hy22 =>
    intro W hSw
    exact ⟨126, #[.string D], by go_simp, HSt.out W D (by omega)⟩
   try simp only [Act.put, List.setIfInBounds_toArray, List.set_cons_zero, List.set_cons_succ]
   try simp only [List.getElem_toArray, List.getElem_cons_zero, List.getElem_cons_succ]
   refine tk 20 ?_
   refine take_call (i := 24) (oi := _) (v := (.string (strB (numL ne)))) rfl (by kernel_rfl) (by kernel_rfl) (by kernel_rfl) (fun _ _ _ h => h) (And.intro (by rfl) ?hy24) (by assumption) ?rest24
   case hy24 =>
    intro W hSw
    exact ⟨130, #[.int .i64 (ne : Int)], by go_simp, HNu.out W ne (by omega)⟩
   try simp only [Act.put, List.setIfInBounds_toArray, List.set_cons_zero, List.set_cons_succ]
   try simp only [List.getElem_toArray, List.getElem_cons_zero, List.getElem_cons_succ]
   refine tk 25 ?_
   refine tk 26 ?_
   refine wpAnyH_done (by kernel_rfl) ?_ _
   go_wp2_with fail
   go_meet
   exact ⟨rfl, HKc.out, HBc.out⟩
  exact AllReadyH.nil
 case rest =>
  obtain ⟨rfl, hK, hB⟩ := hcut
  rw [HX.out]
  have HK1 := Lib.hid hK
  have HB1 := Lib.hid hB
  clear hK hB q1 q2 q3 q4 q5 q6 hc1 hc2 hc3 hc4 hc5 HX HKc HBc
  obtain ⟨wx, hwx⟩ : ∃ x, x = wc := ⟨_, rfl⟩
  subst hwx
  have HAl : Hid (∀ i, (entsL (l.take i)).length ≤ 51000000) := Lib.hid (fun i => by
   have h1 := entsL_len (l := l.take i) (fun e he => Hok.out e (List.mem_of_mem_take he))
   have h2 := Nat.mul_le_mul (show (l.take i).length ≤ 12 by rw [List.length_take]; have := Hne.out; omega) (Nat.le_refl 4200000)
   omega)
  obtain ⟨A0, hA0⟩ : ∃ A0, numL num ++ numL date ++ nstL (bs prev) ++ (numL st.size ++ nstL (bs D) ++ numL ne) = A0 := ⟨_, rfl⟩
  rw [hA0] at HXz HR ⊢
  clear hA0
  go_wp2
  go_loopw [3, 4, 5, 6] (fun y x _ _ wr => ∃ i : Nat, i ≤ ne ∧ x = .int .i64 (i : Int) ∧ y = .string (strB (A0 ++ entsL (l.take i))) ∧ Below wx.heap.size wx wr) (fun _ x _ _ _ => ne - (intOf x).toNat)
  case atStart => exact ⟨0, by omega, rfl, by rw [List.take_zero, show entsL [] = [] from rfl, List.append_nil], Below.refl _ _⟩
  case round =>
   obtain ⟨i, hi, rfl, rfl, hB⟩ := hrel
   have HB := Lib.hid hB
   clear hB
   obtain ⟨Y, hY⟩ : ∃ Y, strB (A0 ++ entsL (l.take i)) = Y := ⟨_, rfl⟩
   have HYz : Hid (Y.size ≤ 51001000) := Lib.hid (by rw [← hY, strB_size, List.length_append]; have := HXz.out; rw [strB_size] at this; have := HAl.out i; omega)
   rw [hY]
   by_cases h : i < ne
   ·have hiI : (i : Int) < ne := by omega
    have hlt : i < l.length := by have := Hne.out; omega
    obtain ⟨x, hx'⟩ : ∃ x, l[i]? = some x := ⟨_, List.getElem?_eq_getElem hlt⟩
    have Hxo := Lib.hid (Hok.out x (List.mem_of_getElem? hx'))
    have Hx' := Lib.hid hx'
    obtain ⟨_, _, e9, _, _, h4⟩ := Hve.out.below (HB1.out.trans (HB.out.mono HB1.out.size))
    rw [Hne.out] at e9
    cases e9
    obtain ⟨b, o, cs, rfl, hR9, hc⟩ := h4 i x hx'
    obtain ⟨va, vx, rfl, hva, hvx⟩ := hR9
    obtain ⟨Aa, ca, rfl, _, _⟩ := hva.slice
    obtain ⟨Ax, cx, rfl, _, _⟩ := hvx.slice
    have e0 : wr.cell? ⟨b, o + i * 7, none⟩ = some (.int .i64 x.k) := hc 0 _ rfl
    have e1 : wr.cell? ⟨b, o + i * 7 + 1, none⟩ = some (.string x.path) := hc 1 _ rfl
    have e2 : wr.cell? ⟨b, o + i * 7 + 2, none⟩ = some (.slice Aa x.attrs.length ca) := hc 2 _ rfl
    have e3 : wr.cell? ⟨b, o + i * 7 + 3, none⟩ = some (.string x.tgt) := hc 3 _ rfl
    have e4 : wr.cell? ⟨b, o + i * 7 + 4, none⟩ = some (.int .i64 x.size) := hc 4 _ rfl
    have e5 : wr.cell? ⟨b, o + i * 7 + 5, none⟩ = some (.string x.dig) := hc 5 _ rfl
    have e6 : wr.cell? ⟨b, o + i * 7 + 6, none⟩ = some (.slice Ax x.exts.length cx) := hc 6 _ rfl
    have HKr := Lib.hid (HK1.out.kept HB.out)
    have c3 := HKr.out.cell (i := 3) rfl
    have Hva := Lib.hid hva
    have Hvx := Lib.hid hvx
    have HZx := Lib.hid Hxo.out.z
    clear hc h4 hx' hva hvx
    obtain ⟨X, hX⟩ : ∃ X, strB (encL x) = X := ⟨_, rfl⟩
    have hXz : X.size ≤ 4200000 := by rw [← hX, strB_size]; have := encL_len Hxo.out; have := HZx.out.exn; omega
    have HEn := Lib.hid (encode36_any wr x _ _ Hva.out Hvx.out Hxo.out (by have := HZx.out.path; omega) (by have := HZx.out.tgt; omega) (fun a ha => by have := HZx.out.kv a ha; omega) (by have := HZx.out.atn; omega) (by have := HZx.out.exn; omega) (by have := headL_len Hxo.out; omega) (by have := HZx.out.dig; omega))
    rw [entV, hX] at HEn
    have HN : Hid (Y ++ X = strB (A0 ++ entsL (l.take (i + 1)))) := Lib.hid (by rw [entsL_take Hx'.out, ← hY, ← hX, strB_cat, List.append_assoc])
    have hYz := HYz.out
    have hcc : ¬ 9223372036854775807 < Y.size + X.size := by omega
    clear hX hY
    go_wp2_with fail
    refine HEn.out.mono ?_
    rintro e2 w2 ⟨rfl, hb2⟩
    have HB2 := Lib.hid (HB.out.trans (hb2.mono HB.out.size))
    clear hb2
    go_wp2_with fail
    go_roundw
    case rel => exact ⟨i + 1, by omega, by go_num, by rw [HN.out], HB2.out⟩
    case measure => simp [intOf]; omega
   ·obtain rfl : i = ne := by omega
    have hiI : ¬ ((i : Nat) : Int) < (i : Int) := by omega
    have HKr := Lib.hid (HK1.out.kept HB.out)
    have c3 := HKr.out.cell (i := 3) rfl
    have HE : Hid (Y = strB R) := Lib.hid (by rw [← hY, ← HR.out, List.take_of_length_le (by have := Hne.out; omega)])
    clear hY
    go_wp2
    go_ret
    exact ⟨by rw [HE.out] <;> rfl, HB1.out.trans (HB.out.mono HB1.out.size)⟩
theorem encode40_ex (w : World) (x : Ses) (ve : Value) (hve : SeqAt entS w ve x.ents) (h : SesW x) (z : SesG x) (h0 : sgnE x = 0) : Calls Tryz.prog 62 #[.agg #[.int .i64 x.num, .int .i64 x.date, .string x.prev, ve, .string x.str, .string x.sig]] w fun r w' => r = .returned (.tuple #[.string (strB (dirL x)), .int .i64 0]) ∧ Below w.heap.size w w' := by
 have HCk := Lib.hid (fun W (hW : Below w.heap.size w W) => check40_ex W x ve (hve.below hW) z)
 have HSi := Lib.hid (fun W (hW : Below w.heap.size w W) => signed40_ex W x ve (hve.below hW) h)
 obtain ⟨A, c, rfl, _, _⟩ := hve.slice
 have hsl := signL_lenW h
 have hsig := h.sig
 obtain ⟨X, hX⟩ : ∃ X, strB (signL x) = X := ⟨_, rfl⟩
 have hXz : X.size ≤ 51001000 := by rw [← hX, strB_size]; exact hsl
 rw [hX] at HSi
 obtain ⟨Y, hY⟩ : ∃ Y, strB (nstL (bs x.sig)) = Y := ⟨_, rfl⟩
 have hYz : Y.size ≤ 2100 := by rw [← hY]; have := nstL_len x.sig (by omega); omega
 obtain ⟨Z, hZ⟩ : ∃ Z, X ++ Y = Z := ⟨_, rfl⟩
 have hZr : strB (restL x) = Z := by rw [← hZ, ← hX, ← hY, strB_cat]; rfl
 have hZz : Z.size = (restL x).length := by rw [← hZr, strB_size]
 have hZz2 : Z.size ≤ 51004000 := by rw [← hZ, ByteArray.size_append]; omega
 obtain ⟨N, hN⟩ : ∃ N, strB (dig8 Z.size) = N := ⟨_, rfl⟩
 have hNz : N.size = 8 := by rw [← hN, strB_size, dig8_len]
 have HQ : Hid (N ++ Z = strB (dirL x)) := Lib.hid (by rw [dirL, ← hZz, ← strB_cat, hZr, hN])
 have HSt : Hid (∀ W, Calls Tryz.prog 126 #[.string x.sig] W fun e w' => e = .returned (.string Y) ∧ W = w') := Lib.hid (fun W => by rw [← hY]; exact nstring_any W x.sig (by omega))
 have HDg : Hid (∀ W, Calls Tryz.prog 127 #[.int .i64 (Z.size : Int)] W fun e w' => e = .returned (.string N) ∧ W = w') := Lib.hid (fun W => by rw [← hN]; exact digits40_any W Z.size (by omega))
 have hc1 : ¬ 9223372036854775807 < X.size + Y.size := by omega
 have hc2 : ¬ 9223372036854775807 < N.size + Z.size := by omega
 have hx90 : ¬ (90000000 : Int) < X.size := by omega
 have HZ := Lib.hid hZ
 obtain ⟨R, hR⟩ : ∃ R, strB (dirL x) = R := ⟨_, rfl⟩
 rw [hR] at HQ ⊢
 rw [h0] at HCk
 clear hve h z h0 hsl hsig hX hY hZ hZr hZz hN hNz hR
 generalize hgl : x.ents.length = nl at *
 have Hgl := Lib.hid hgl
 clear hgl
 obtain ⟨num, date, prev, l, st, sg⟩ := x
 dsimp only at HCk HSi HSt ⊢
 have hK := Blk.new w 43 [.int .i64 num, .int .i64 date, .string prev, .slice A nl c, .string st, .string sg]
 change Blk (w.alloc (.cells #[.int .i64 num, .int .i64 date, .string prev, .slice A nl c, .string st, .string sg] 43)) _ _ _ at hK
 have HB0 := Lib.hid ((Below.refl w.heap.size w).alloc (Nat.le_refl _) (.cells #[.int .i64 num, .int .i64 date, .string prev, .slice A nl c, .string st, .string sg] 43))
 have HK := Lib.hid hK
 clear hK
 go_enter Tryz.func62, Tryz.ntmps62
 go_upto_region 1 with fail
 generalize w.alloc (.cells #[.int .i64 num, .int .i64 date, .string prev, .slice A nl c, .string st, .string sg] 43) = wb at *
 have c0 := HK.out.cell (i := 0) rfl
 have c1 := HK.out.cell (i := 1) rfl
 have c2 := HK.out.cell (i := 2) rfl
 have c3 := HK.out.cell (i := 3) rfl
 have c4 := HK.out.cell (i := 4) rfl
 have c5 := HK.out.cell (i := 5) rfl
 go_wp2_with fail
 refine (HCk.out _ HB0.out).mono ?_
 rintro e1 w1 ⟨rfl, hb1⟩
 have HK1 := Lib.hid (HK.out.kept hb1)
 have HB1 := Lib.hid (HB0.out.trans (hb1.mono HB0.out.size))
 clear hb1 c0 c1 c2 c3 c4 c5 HK HB0
 have c0 := HK1.out.cell (i := 0) rfl
 have c1 := HK1.out.cell (i := 1) rfl
 have c2 := HK1.out.cell (i := 2) rfl
 have c3 := HK1.out.cell (i := 3) rfl
 have c4 := HK1.out.cell (i := 4) rfl
 have c5 := HK1.out.cell (i := 5) rfl
 go_wp2_with fail
 refine (HSi.out _ HB1.out).mono ?_
 rintro e2 w2 ⟨rfl, hb2⟩
 have HK2 := Lib.hid (HK1.out.kept hb2)
 have HB2 := Lib.hid (HB1.out.trans (hb2.mono HB1.out.size))
 clear hb2 c0 c1 c2 c3 c4 c5 HK1 HB1
 have c5 := HK2.out.cell (i := 5) rfl
 go_wp2_with fail
 refine (HSt.out _).mono ?_
 rintro e3 w3 ⟨rfl, rfl⟩
 go_upto_region 8 with fail
 rw [HZ.out]
 go_wp2_with fail
 refine (HDg.out _).mono ?_
 rintro e4 w4 ⟨rfl, rfl⟩
 go_wp2_with fail
 go_ret2
 exact ⟨by rw [← HQ.out] <;> rfl, HB2.out⟩
theorem encode40_no (w : World) (x : Ses) (ve : Value) (hve : SeqAt entS w ve x.ents) (z : SesG x) (h0 : sgnE x ≠ 0) : Calls Tryz.prog 62 #[.agg #[.int .i64 x.num, .int .i64 x.date, .string x.prev, ve, .string x.str, .string x.sig]] w fun r w' => r = .returned (.tuple #[.string ⟨#[]⟩, .int .i64 (sgnE x)]) ∧ Below w.heap.size w w' := by
 have HCk := Lib.hid (fun W (hW : Below w.heap.size w W) => check40_ex W x ve (hve.below hW) z)
 obtain ⟨A, c, rfl, _, _⟩ := hve.slice
 have b1 : (sgnE x != 0) = true := by rw [bne_iff_ne]; exact h0
 generalize sgnE x = R at *
 clear hve z h0
 generalize hgl : x.ents.length = nl at *
 clear hgl
 obtain ⟨num, date, prev, l, st, sg⟩ := x
 dsimp only at HCk ⊢
 have hK := Blk.new w 43 [.int .i64 num, .int .i64 date, .string prev, .slice A nl c, .string st, .string sg]
 change Blk (w.alloc (.cells #[.int .i64 num, .int .i64 date, .string prev, .slice A nl c, .string st, .string sg] 43)) _ _ _ at hK
 have HB0 := Lib.hid ((Below.refl w.heap.size w).alloc (Nat.le_refl _) (.cells #[.int .i64 num, .int .i64 date, .string prev, .slice A nl c, .string st, .string sg] 43))
 have HK := Lib.hid hK
 clear hK
 go_enter Tryz.func62, Tryz.ntmps62
 go_upto_region 1 with fail
 generalize w.alloc (.cells #[.int .i64 num, .int .i64 date, .string prev, .slice A nl c, .string st, .string sg] 43) = wb at *
 have c0 := HK.out.cell (i := 0) rfl
 have c1 := HK.out.cell (i := 1) rfl
 have c2 := HK.out.cell (i := 2) rfl
 have c3 := HK.out.cell (i := 3) rfl
 have c4 := HK.out.cell (i := 4) rfl
 have c5 := HK.out.cell (i := 5) rfl
 go_wp2_with fail
 refine (HCk.out _ HB0.out).mono ?_
 rintro e1 w1 ⟨rfl, hb1⟩
 have HB1 := Lib.hid (HB0.out.trans (hb1.mono HB0.out.size))
 clear hb1 c0 c1 c2 c3 c4 c5 HK HB0
 go_wp2_with fail
 go_ret2
 exact ⟨rfl, HB1.out⟩
theorem digest40_ex (w : World) (x : Ses) (ve : Value) (hve : SeqAt entS w ve x.ents) (z : SesG x) : Calls Tryz.prog 35 #[.agg #[.int .i64 x.num, .int .i64 x.date, .string x.prev, ve, .string x.str, .string x.sig]] w fun r w' => r = .returned (.tuple #[.string (if sgnE x = 0 then dgS x else ⟨#[]⟩), .int .i64 (sgnE x)]) ∧ Below w.heap.size w w' := by
 by_cases h0 : sgnE x = 0
 ·rw [if_pos h0]
  have HCk := Lib.hid (fun W (hW : Below w.heap.size w W) => encode40_ex W x ve (hve.below hW) (z.w h0) z h0)
  have HSi := Lib.hid (fun W (hW : Below w.heap.size w W) => signed40_ex W x ve (hve.below hW) (z.w h0))
  have hsl := signL_lenW (z.w h0)
  obtain ⟨D, hD⟩ : ∃ D, dgS x = D := ⟨_, rfl⟩
  rw [hD]
  obtain ⟨X, hX⟩ : ∃ X, strB (signL x) = X := ⟨_, rfl⟩
  have HDi : Hid (∀ W, Calls Tryz.prog 63 #[.string X] W fun e w' => e = .returned (.string D) ∧ Below W.heap.size W w') := Lib.hid (fun W => by
   have h6 := digest_any comp_spec W X (by rw [← hX, strB_size]; omega)
   rw [← hX, bs_strB (signL_lt x), ← dgS, hD] at h6
   rw [← hX]
   exact h6)
  rw [hX] at HSi
  obtain ⟨Y, hY⟩ : ∃ Y, strB (dirL x) = Y := ⟨_, rfl⟩
  rw [hY] at HCk
  rw [h0]
  obtain ⟨A, c, rfl, _, _⟩ := hve.slice
  clear hve z h0 hsl hX hD hY
  generalize hgl : x.ents.length = nl at *
  clear hgl
  obtain ⟨num, date, prev, l, st, sg⟩ := x
  dsimp only at HCk HSi ⊢
  have hK := Blk.new w 43 [.int .i64 num, .int .i64 date, .string prev, .slice A nl c, .string st, .string sg]
  change Blk (w.alloc (.cells #[.int .i64 num, .int .i64 date, .string prev, .slice A nl c, .string st, .string sg] 43)) _ _ _ at hK
  have HB0 := Lib.hid ((Below.refl w.heap.size w).alloc (Nat.le_refl _) (.cells #[.int .i64 num, .int .i64 date, .string prev, .slice A nl c, .string st, .string sg] 43))
  have HK := Lib.hid hK
  clear hK
  go_enter Tryz.func35, Tryz.ntmps35
  go_upto_region 1 with fail
  generalize w.alloc (.cells #[.int .i64 num, .int .i64 date, .string prev, .slice A nl c, .string st, .string sg] 43) = wb at *
  have c0 := HK.out.cell (i := 0) rfl
  have c1 := HK.out.cell (i := 1) rfl
  have c2 := HK.out.cell (i := 2) rfl
  have c3 := HK.out.cell (i := 3) rfl
  have c4 := HK.out.cell (i := 4) rfl
  have c5 := HK.out.cell (i := 5) rfl
  go_wp2_with fail
  refine (HCk.out _ HB0.out).mono ?_
  rintro e1 w1 ⟨rfl, hb1⟩
  have HK1 := Lib.hid (HK.out.kept hb1)
  have HB1 := Lib.hid (HB0.out.trans (hb1.mono HB0.out.size))
  clear hb1 c0 c1 c2 c3 c4 c5 HK HB0
  have c0 := HK1.out.cell (i := 0) rfl
  have c1 := HK1.out.cell (i := 1) rfl
  have c2 := HK1.out.cell (i := 2) rfl
  have c3 := HK1.out.cell (i := 3) rfl
  have c4 := HK1.out.cell (i := 4) rfl
  have c5 := HK1.out.cell (i := 5) rfl
  go_wp2_with fail
  refine (HSi.out _ HB1.out).mono ?_
  rintro e2 w2 ⟨rfl, hb2⟩
  have HB2 := Lib.hid (HB1.out.trans (hb2.mono HB1.out.size))
  clear hb2 c0 c1 c2 c3 c4 c5 HK1 HB1
  go_wp2_with fail
  refine (HDi.out _).mono ?_
  rintro e3 w3 ⟨rfl, hb3⟩
  have HB3 := Lib.hid (HB2.out.trans (hb3.mono HB2.out.size))
  clear hb3
  go_wp2_with fail
  go_ret2
  exact ⟨rfl, HB3.out⟩
 ·rw [if_neg h0]
  have HCk := Lib.hid (fun W (hW : Below w.heap.size w W) => encode40_no W x ve (hve.below hW) z h0)
  obtain ⟨A, c, rfl, _, _⟩ := hve.slice
  have b1 : (sgnE x != 0) = true := by rw [bne_iff_ne]; exact h0
  generalize sgnE x = R at *
  clear hve z h0
  generalize hgl : x.ents.length = nl at *
  clear hgl
  obtain ⟨num, date, prev, l, st, sg⟩ := x
  dsimp only at HCk ⊢
  have hK := Blk.new w 43 [.int .i64 num, .int .i64 date, .string prev, .slice A nl c, .string st, .string sg]
  change Blk (w.alloc (.cells #[.int .i64 num, .int .i64 date, .string prev, .slice A nl c, .string st, .string sg] 43)) _ _ _ at hK
  have HB0 := Lib.hid ((Below.refl w.heap.size w).alloc (Nat.le_refl _) (.cells #[.int .i64 num, .int .i64 date, .string prev, .slice A nl c, .string st, .string sg] 43))
  have HK := Lib.hid hK
  clear hK
  go_enter Tryz.func35, Tryz.ntmps35
  go_upto_region 1 with fail
  generalize w.alloc (.cells #[.int .i64 num, .int .i64 date, .string prev, .slice A nl c, .string st, .string sg] 43) = wb at *
  have c0 := HK.out.cell (i := 0) rfl
  have c1 := HK.out.cell (i := 1) rfl
  have c2 := HK.out.cell (i := 2) rfl
  have c3 := HK.out.cell (i := 3) rfl
  have c4 := HK.out.cell (i := 4) rfl
  have c5 := HK.out.cell (i := 5) rfl
  go_wp2_with fail
  refine (HCk.out _ HB0.out).mono ?_
  rintro e1 w1 ⟨rfl, hb1⟩
  have HB1 := Lib.hid (HB0.out.trans (hb1.mono HB0.out.size))
  clear hb1 c0 c1 c2 c3 c4 c5 HK HB0
  go_wp2_with fail
  go_ret2
  exact ⟨rfl, HB1.out⟩
end
end Go.Proofs.YtbccghbngaiceaaGreatDoor
