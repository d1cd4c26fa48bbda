/-
  Joined: MbH MbJ.
-/
import Derived.Test.YtbccghbngaiceaaGreatDoorMMn28
set_option linter.all false
set_option maxRecDepth 100000
set_option maxHeartbeats 64000000
namespace Go.Proofs.YtbccghbngaiceaaGreatDoor
section
open Go.RowKit
theorem elemsB_len (s : ByteArray) : (elemsB s).length = (elemsL (bs s)).length := by rw [elemsB, List.length_map]
theorem pathE_len {s : ByteArray} (h : pathE (bs s) = 0) : s.size ≤ 200 ∧ (elemsB s).length ≤ 8 := by
 rw [elemsB_len]
 unfold pathE at h
 rw [bs_len] at h
 by_cases h1 : 200 < s.size
 ·rw [if_pos h1] at h; exact absurd h (by decide)
 ·rw [if_neg h1] at h
  by_cases h2 : 8 < (elemsL (bs s)).length
  ·rw [if_pos h2] at h; exact absurd h (by decide)
  ·omega
theorem psplit_gen (w : World) (s : ByteArray) (hs : s.size ≤ 1000000) (hT : Tab w) : Calls Tryz.prog 186 #[.string s] w fun e w' => (∃ v, e = .returned (.tuple #[v, .int .i64 (pathE (bs s))]) ∧ SeqAt strS w' v (if pathE (bs s) = 0 then elemsB s else [])) ∧ Below w.heap.size w w' := by
 have HC := Lib.hid (pcheck_gen w s hs hT)
 have HE := Lib.hid (fun W (hW : Below w.heap.size w W) => pelems_any W s hs (hT.below hW))
 rw [← elemsB] at HE
 obtain ⟨Z, hZ⟩ : ∃ Z, (if pathE (bs s) = 0 then elemsB s else []) = Z := ⟨_, rfl⟩
 rw [hZ]
 have HZ := Lib.hid hZ
 generalize elemsB s = L at *
 generalize pathE (bs s) = E at *
 clear hs hT hZ
 go_enter Tryz.func186, Tryz.ntmps186
 go_wp2_with fail
 refine HC.out.mono ?_
 rintro e1 w1 ⟨rfl, hb1⟩
 have HB1 := Lib.hid hb1
 clear hb1
 by_cases h0 : E = 0
 ·subst h0
  have hz : L = Z := by rw [← HZ.out, if_pos rfl]
  subst hz
  clear HZ
  go_wp2_with fail
  refine (HE.out _ HB1.out).mono ?_
  rintro e2 w2 ⟨⟨v, rfl, hv⟩, hb2⟩
  have HV := Lib.hid hv
  have HB2 := Lib.hid (HB1.out.trans (hb2.mono HB1.out.size))
  clear hv hb2
  go_wp2_with fail
  go_ret2
  exact ⟨⟨v, rfl, HV.out⟩, HB2.out⟩
 ·have g1 : (E != 0) = true := by rw [bne, beq_eq_false_iff_ne.2 h0]; rfl
  have hz : Z = [] := by rw [← HZ.out, if_neg h0]
  subst hz
  clear h0 HZ
  go_wp2_with fail
  go_ret2
  exact ⟨⟨_, rfl, SeqAt.nil _⟩, HB1.out⟩
theorem eqstr_any (w : World) (v u : Value) (l m : List ByteArray) (hv : SeqAt strS w v l) (hu : SeqAt strS w u m) : Calls Tryz.prog 187 #[v, u] w fun e w' => e = .returned (.bool (decide (l = m))) ∧ Below w.heap.size w w' := by
 have HL := Lib.hid hv
 have HM := Lib.hid hu
 obtain ⟨A, c, rfl, h1, h2⟩ := hv.slice
 obtain ⟨A2, c2, rfl, h3, h4⟩ := hu.slice
 clear hv hu
 by_cases hl : l.length = m.length
 ·obtain ⟨R, hR⟩ : ∃ R, decide (l = m) = R := ⟨_, rfl⟩
  rw [hR]
  have HR := Lib.hid hR
  have i0 : ((l.length : Int) != (m.length : Int)) = false := by rw [hl]; simp
  have Hl := Lib.hid hl
  clear hR
  go_enter Tryz.func187, Tryz.ntmps187
  go_wp2
  go_loopw [13] (fun i wr => ∃ k : Nat, k ≤ l.length ∧ i = .int .i64 k ∧ l.take k = m.take k ∧ Below w.heap.size w wr) (fun i _ => l.length - (intOf i).toNat)
  case atStart => exact ⟨0, Nat.zero_le _, rfl, rfl, Below.refl _ _⟩
  case round =>
   obtain ⟨k, hk, rfl, hp, hB⟩ := hrel
   have HP := Lib.hid hp
   have HB := Lib.hid hB
   clear hB hp
   by_cases hlt : k < l.length
   ·have hkI : (k : Int) < l.length := by omega
    have hkM : (k : Int) < m.length := by have := Hl.out; omega
    obtain ⟨x, hx⟩ : ∃ x, l[k]? = some x := ⟨_, List.getElem?_eq_getElem hlt⟩
    obtain ⟨y, hy⟩ : ∃ y, m[k]? = some y := ⟨_, List.getElem?_eq_getElem (by have := Hl.out; omega)⟩
    have Hx := Lib.hid hx
    have Hy := Lib.hid hy
    obtain ⟨_, _, e9, _, _, d4⟩ := HL.out.below HB.out
    cases e9
    obtain ⟨b, o, cs, rfl, rfl, hc⟩ := d4 k x hx
    have e0 : wr.cell? ⟨b, o + k * 1, none⟩ = some (.string x) := hc 0 _ rfl
    obtain ⟨_, _, e8, _, _, d5⟩ := HM.out.below HB.out
    cases e8
    obtain ⟨b2, o2, cs2, rfl, rfl, hc2⟩ := d5 k y hy
    have e1 : wr.cell? ⟨b2, o2 + k * 1, none⟩ = some (.string y) := hc2 0 _ rfl
    rw [Nat.mul_one] at e0 e1
    clear hc hc2 d4 d5 hx hy
    by_cases hxy : x = y
    ·subst hxy
     have q1 : (x == x) = true := beqV_true rfl
     have q2 : (x.toList == x.toList) = true := beq_iff_eq.2 rfl
     have HN : Hid (l.take (k + 1) = m.take (k + 1)) := Lib.hid (by rw [List.take_add_one, List.take_add_one, Hx.out, Hy.out, HP.out])
     go_upto_region 6 with fail
     go_quiet (fail)
     go_wp2
     go_roundw
     case rel => exact ⟨k + 1, by omega, by go_num, HN.out, by first | exact HB.out | exact blwN HB.out _⟩
     case measure => simp [intOf]; omega
    ·have q1 : (x != y) = true := bneV_true hxy
     have q2 : (x.toList != y.toList) = true := by
      rw [bne_iff_ne]
      exact fun e => hxy (by rw [ByteArray.toList_eq, ByteArray.toList_eq] at e; exact ByteArray.ext (Array.toList_inj.1 e))
     have hr : R = false := by
      rw [← HR.out]
      refine decide_eq_false fun e => hxy ?_
      have h6 := Hx.out
      rw [e, Hy.out] at h6
      exact (Option.some.inj h6).symm
     subst hr
     have HQ := Lib.hid q2
     clear hxy q1 q2
     go_upto_region 6 with fail
     go_quiet (fail)
     go_wp2
     all_goals first
      | (go_ret; exact ⟨rfl, by first | exact HB.out | exact blwN HB.out _⟩)
      | (exfalso; rename_i hh; have h7 := HQ.out; rw [bne, hh] at h7; cases h7)
   ·have hkI : ¬ (k : Int) < l.length := by omega
    have hr : R = true := by
     rw [← HR.out]
     have h6 := HP.out
     rw [List.take_of_length_le (by omega), List.take_of_length_le (by have := Hl.out; omega)] at h6
     exact decide_eq_true h6
    subst hr
    go_wp2
    go_ret
    exact ⟨rfl, HB.out⟩
 ·have i0 : ((l.length : Int) != (m.length : Int)) = true := by rw [bne, beq_eq_false_iff_ne.2 (by omega)]; rfl
  have hr : decide (l = m) = false := decide_eq_false fun e => hl (by rw [e])
  rw [hr]
  clear hl hr
  go_enter Tryz.func187, Tryz.ntmps187
  go_wp2
  go_ret
  exact ⟨rfl, Below.refl _ _⟩
theorem SeqAt.takeN {α : Type} {ρ : Shape α} {W : World} {A : Option Addr} {n c m : Nat} {xs : List α} (h : SeqAt ρ W (.slice A n c) xs) (hm : m ≤ xs.length) : SeqAt ρ W (.slice A m c) (xs.take m) := by
 obtain ⟨A', c', e, h1, h2, h3⟩ := h
 cases e
 have hl : (xs.take m).length = m := by rw [List.length_take]; omega
 refine ⟨_, _, by rw [hl], by rw [hl]; omega, h2, fun i x hx => ?_⟩
 rw [List.getElem?_take] at hx
 split at hx
 ·exact h3 i x hx
 ·cases hx
theorem punder_gen (w : World) (p d : ByteArray) (hp : p.size ≤ 1000000) (hd : d.size ≤ 1000000) (hT : Tab w) : Calls Tryz.prog 104 #[.string p, .string d] w fun e w' => e = .returned (.bool (undB p d)) ∧ Below w.heap.size w w' := by
 have HS := Lib.hid (psplit_gen w p hp hT)
 have HS2 := Lib.hid (fun W (hW : Below w.heap.size w W) => psplit_gen W d hd (hT.below hW))
 obtain ⟨R, hR⟩ : ∃ R, undB p d = R := ⟨_, rfl⟩
 rw [hR]
 unfold undB at hR
 generalize elemsB p = L at *
 generalize pathE (bs p) = E at *
 generalize elemsB d = M at *
 generalize pathE (bs d) = F at *
 have HR := Lib.hid hR
 clear hp hd hT hR
 go_enter Tryz.func104, Tryz.ntmps104
 go_wp2_with fail
 refine HS.out.mono ?_
 rintro e1 w1 ⟨⟨v1, rfl, hv1⟩, hb1⟩
 have HV1 := Lib.hid hv1
 have HB1 := Lib.hid hb1
 clear hb1 hv1
 go_wp2_with fail
 refine (HS2.out _ HB1.out).mono ?_
 rintro e2 w2 ⟨⟨v2, rfl, hv2⟩, hb2⟩
 have HV1 := Lib.hid (HV1.out.below hb2)
 have HV2 := Lib.hid hv2
 have HB2 := Lib.hid (HB1.out.trans (hb2.mono HB1.out.size))
 clear hb2 hv2
 by_cases h0 : E = 0
 ·subst h0
  by_cases h1 : F = 0
  ·subst h1
   rw [if_pos rfl] at HV1 HV2
   obtain ⟨A1, c1, rfl, k1, k2⟩ := HV1.out.slice
   obtain ⟨A2, c2, rfl, k3, k4⟩ := HV2.out.slice
   by_cases hl : M.length ≤ L.length
   ·have i1 : (M.length : Int) ≤ L.length := by omega
    have i2 : (M.length : Int) ≤ c1 := by omega
    have HQ := Lib.hid (fun (W : World) (hW : Below w2.heap.size w2 W) => eqstr_any W _ _ _ _ ((HV1.out.takeN hl).below hW) (HV2.out.below hW))
    have hr : R = decide (L.take M.length = M) := by
     rw [← HR.out]
     by_cases q : L.take M.length = M
     ·rw [decide_eq_true q, decide_eq_true ⟨rfl, rfl, hl, q⟩]
     ·rw [decide_eq_false q, decide_eq_false (fun h => q h.2.2.2)]
    generalize decide (L.take M.length = M) = Q at *
    subst hr
    clear HR
    go_wp2_with fail
    refine (HQ.out _ (by first | exact Below.refl _ _ | exact blwN (Below.refl _ _) _)).mono ?_
    rintro e3 w3 ⟨rfl, hb3⟩
    have HB3 := Lib.hid (HB2.out.trans (hb3.mono HB2.out.size))
    clear hb3
    go_wp2_with fail
    go_ret
    exact ⟨by first | rfl | exact ret_bool' (by simp), HB3.out⟩
   ·have i1 : ¬ (M.length : Int) ≤ L.length := by omega
    have hr : R = false := by rw [← HR.out]; exact decide_eq_false (fun h => hl h.2.2.1)
    subst hr
    clear HR
    go_wp2_with fail
    go_ret
    exact ⟨by first | rfl | exact ret_bool' (by simp), HB2.out⟩
  ·have i1 : (F == 0) = false := beq_eq_false_iff_ne.2 h1
   have hr : R = false := by rw [← HR.out]; exact decide_eq_false (fun h => h1 h.2.1)
   subst hr
   clear HR h1
   go_wp2_with fail
   go_ret
   exact ⟨by first | rfl | exact ret_bool' (by simp), HB2.out⟩
 ·have i1 : (E == 0) = false := beq_eq_false_iff_ne.2 h0
  have hr : R = false := by rw [← HR.out]; exact decide_eq_false (fun h => h0 h.1)
  subst hr
  clear HR h0
  go_wp2_with fail
  go_ret
  exact ⟨by first | rfl | exact ret_bool' (by simp), HB2.out⟩
theorem bl_flip : ∀ p q : List UInt8, p ≠ q → Op.bytesLess q p = !Op.bytesLess p q
 | [], [], h => absurd rfl h
 | [], b :: y, _ => rfl
 | a :: x, [], _ => rfl
 | a :: x, b :: y, h => by
  simp only [Op.bytesLess]
  by_cases h1 : a < b
  ·have h2 : ¬ b < a := fun q => by rw [UInt8.lt_iff_toNat_lt] at h1 q; omega
   have h3 : ¬ b = a := fun q => by subst q; exact h2 h1
   rw [decide_eq_true h1, decide_eq_false h2, beq_eq_false_iff_ne.2 h3]
   simp
  ·by_cases h2 : b < a
   ·have h3 : ¬ a = b := fun q => by subst q; exact h1 h2
    rw [decide_eq_true h2, decide_eq_false h1, beq_eq_false_iff_ne.2 h3]
    simp
   ·have h3 : a = b := by
     rw [UInt8.lt_iff_toNat_lt] at h1 h2
     exact UInt8.toNat_inj.1 (by omega)
    subst h3
    rw [decide_eq_false h1, beq_self_eq_true, bl_flip x y (fun e => h (by rw [e]))]
    simp
theorem cmpstr_any (w : World) (x y : ByteArray) : Calls Tryz.prog 190 #[.string x, .string y] w fun e w' => e = .returned (.int .i64 (cmpB x y)) ∧ w = w' := by
 obtain ⟨R, hR⟩ : ∃ R, cmpB x y = R := ⟨_, rfl⟩
 rw [hR]
 rw [cmpB, cmp_of, ← Lib.toList_data, ← Lib.toList_data] at hR
 have hirr : ∀ l : List UInt8, Op.bytesLess l l = false := fun l => by
  induction l with
  | nil => rfl
  | cons a r ih => rw [Op.bytesLess, ih, Bool.and_false, Bool.or_false]; exact decide_eq_false (by rw [UInt8.lt_iff_toNat_lt]; omega)
 by_cases h1 : x.toList = y.toList
 ·have hxy : x = y := by rw [ByteArray.toList_eq, ByteArray.toList_eq] at h1; exact ByteArray.ext (Array.toList_inj.1 h1)
  subst hxy
  rw [if_pos rfl] at hR
  subst hR
  have b1 := hirr x.toList
  have n1 : (x != x) = false := bneV_false rfl
  have n2 : (x.toList != x.toList) = false := by simp
  clear h1 hirr
  go_enter Tryz.func190, Tryz.ntmps190
  go_wp2
  go_ret
  exact ⟨rfl, rfl⟩
 ·rw [if_neg h1] at hR
  have n1 : (x != x) = false := bneV_false rfl
  have n2 : (x.toList != x.toList) = false := by simp
  have n3 : (y != y) = false := bneV_false rfl
  have n4 : (y.toList != y.toList) = false := by simp
  have hfl := bl_flip _ _ h1
  have hb0 : (x.toList == y.toList) = false := beq_eq_false_iff_ne.2 h1
  have hb1 : (x == y) = false := beqV_false (fun e => h1 (by rw [e]))
  cases hb : Op.bytesLess y.toList x.toList with
  | true =>
   rw [hb, if_pos rfl] at hR
   subst hR
   have hc : Op.bytesLess x.toList y.toList = false := by rw [hb] at hfl; simpa using hfl.symm
   clear hirr hfl
   go_enter Tryz.func190, Tryz.ntmps190
   go_wp2
   go_ret
   exact ⟨rfl, rfl⟩
  | false =>
   rw [hb, if_neg (by decide)] at hR
   subst hR
   have hc : Op.bytesLess x.toList y.toList = true := by rw [hb] at hfl; simpa using hfl.symm
   clear hirr hfl
   go_enter Tryz.func190, Tryz.ntmps190
   go_wp2
   go_ret
   exact ⟨rfl, rfl⟩
theorem cmpPath_drop {l m : List ByteArray} {x y : ByteArray} {k : Nat} (hx : l[k]? = some x) (hy : m[k]? = some y) : cmpPath (l.drop k) (m.drop k) = if cmpB x y ≠ 0 then cmpB x y else cmpPath (l.drop (k + 1)) (m.drop (k + 1)) := by
 obtain ⟨h1, rfl⟩ := List.getElem?_eq_some_iff.1 hx
 obtain ⟨h2, rfl⟩ := List.getElem?_eq_some_iff.1 hy
 rw [List.drop_eq_getElem_cons h1, List.drop_eq_getElem_cons h2, cmpPath]
theorem cmpf_any (w : World) (v u : Value) (l m : List ByteArray) (hv : SeqAt strS w v l) (hu : SeqAt strS w u m) : Calls Tryz.prog 188 #[v, u, .func (.func 190) #[] #[]] w fun e w' => e = .returned (.int .i64 (cmpPath l m)) ∧ Below w.heap.size w w' := by
 have HL := Lib.hid hv
 have HM := Lib.hid hu
 obtain ⟨A, c, rfl, h1, h2⟩ := hv.slice
 obtain ⟨A2, c2, rfl, h3, h4⟩ := hu.slice
 have HC := Lib.hid (fun W x y => cmpstr_any W x y)
 have eg := enters_of Tryz.func190 (by kernel_rfl) rfl
 clear hv hu
 obtain ⟨R, hR⟩ : ∃ R, cmpPath l m = R := ⟨_, rfl⟩
 rw [hR]
 have HR := Lib.hid hR
 clear hR
 go_enter Tryz.func188, Tryz.ntmps188
 go_wp2
 go_loopw [13] (fun i wr => ∃ k : Nat, k ≤ l.length ∧ k ≤ m.length ∧ i = .int .i64 k ∧ cmpPath (l.drop k) (m.drop k) = R ∧ Below w.heap.size w wr) (fun i _ => l.length - (intOf i).toNat)
 case atStart => exact ⟨0, Nat.zero_le _, Nat.zero_le _, rfl, by rw [List.drop_zero, List.drop_zero]; exact HR.out, Below.refl _ _⟩
 case round =>
  obtain ⟨k, hk, hk2, rfl, hp, hB⟩ := hrel
  have HP := Lib.hid hp
  have HB := Lib.hid hB
  clear hB hp HR
  by_cases hlt : k < l.length
  ·have hkI : (k : Int) < l.length := by omega
   obtain ⟨x, hx⟩ : ∃ x, l[k]? = some x := ⟨_, List.getElem?_eq_getElem hlt⟩
   have Hx := Lib.hid hx
   obtain ⟨_, _, e9, _, _, d4⟩ := HL.out.below HB.out
   cases e9
   obtain ⟨b, o, cs, rfl, rfl, hc⟩ := d4 k x hx
   have e0 : wr.cell? ⟨b, o + k * 1, none⟩ = some (.string x) := hc 0 _ rfl
   rw [Nat.mul_one] at e0
   clear hc d4 hx
   by_cases hm : k < m.length
   ·have hkM : (k : Int) < m.length := by omega
    have hkN : ¬ (m.length : Int) ≤ k := by omega
    obtain ⟨y, hy⟩ : ∃ y, m[k]? = some y := ⟨_, List.getElem?_eq_getElem hm⟩
    have HE : Hid ((if cmpB x y ≠ 0 then cmpB x y else cmpPath (l.drop (k + 1)) (m.drop (k + 1))) = R) := Lib.hid (by rw [← HP.out, cmpPath_drop Hx.out hy])
    obtain ⟨_, _, e8, _, _, d5⟩ := HM.out.below HB.out
    cases e8
    obtain ⟨b2, o2, cs2, rfl, rfl, hc2⟩ := d5 k y hy
    have e1 : wr.cell? ⟨b2, o2 + k * 1, none⟩ = some (.string y) := hc2 0 _ rfl
    rw [Nat.mul_one] at e1
    have HCx := Lib.hid (fun W => HC.out W x y)
    clear hc2 d5 hy
    obtain ⟨C, hC⟩ : ∃ C, cmpB x y = C := ⟨_, rfl⟩
    rw [hC] at HCx HE
    clear hC
    go_wp2_with fail
    refine (HCx.out _).mono ?_
    rintro e2 w2 ⟨rfl, rfl⟩
    by_cases hz : C = 0
    ·subst hz
     have HE := Lib.hid ((if_neg (by decide : ¬ ((0 : Int) ≠ 0))).symm.trans HE.out)
     go_wp2
     go_roundw
     case rel => exact ⟨k + 1, by omega, by omega, by go_num, HE.out, HB.out⟩
     case measure => simp [intOf]; omega
    ·obtain rfl : C = R := by rw [← HE.out, if_pos hz]
     have g1 : (C != 0) = true := by rw [bne, beq_eq_false_iff_ne.2 hz]; rfl
     clear HE hz
     go_wp2
     go_ret
     exact ⟨rfl, HB.out⟩
   ·have hkN : (m.length : Int) ≤ k := by omega
    have hr : R = 1 := by
     rw [← HP.out, List.drop_of_length_le (l := m) (by omega)]
     obtain ⟨g1, g2⟩ := List.getElem?_eq_some_iff.1 Hx.out
     rw [List.drop_eq_getElem_cons g1, cmpPath]
    subst hr
    clear hm
    go_wp2
    go_ret
    exact ⟨rfl, HB.out⟩
  ·have hkI : ¬ (k : Int) < l.length := by omega
   obtain rfl : k = l.length := by omega
   by_cases hm : l.length < m.length
   ·have hmI : (l.length : Int) < m.length := by omega
    have hr : R = -1 := by
     rw [← HP.out, List.drop_length]
     obtain ⟨y, hy⟩ : ∃ y, m[l.length]? = some y := ⟨_, List.getElem?_eq_getElem hm⟩
     obtain ⟨g1, g2⟩ := List.getElem?_eq_some_iff.1 hy
     rw [List.drop_eq_getElem_cons g1, cmpPath]
    subst hr
    clear hm
    go_wp2
    go_ret
    exact ⟨rfl, HB.out⟩
   ·have hmI : ¬ (l.length : Int) < m.length := by omega
    have hr : R = 0 := by
     rw [← HP.out, List.drop_length, List.drop_of_length_le (by omega), cmpPath]
    subst hr
    clear hm
    go_wp2
    go_ret
    exact ⟨rfl, HB.out⟩
theorem pcompare_gen (w : World) (a b : ByteArray) (ha : a.size ≤ 1000000) (hb : b.size ≤ 1000000) (hT : Tab w) : Calls Tryz.prog 111 #[.string a, .string b] w fun e w' => e = .returned (.int .i64 (pcmp a b)) ∧ Below w.heap.size w w' := by
 have HA := Lib.hid (pelems_any w a ha hT)
 have HB := Lib.hid (fun W (hW : Below w.heap.size w W) => pelems_any W b hb (hT.below hW))
 rw [← elemsB] at HA HB
 unfold pcmp
 have HC := Lib.hid (fun W v u hv hu => cmpf_any W v u (elemsB a) (elemsB b) hv hu)
 generalize elemsB a = L at *
 generalize elemsB b = M at *
 clear ha hb hT
 go_enter Tryz.func111, Tryz.ntmps111
 go_wp2_with fail
 refine HA.out.mono ?_
 rintro e1 w1 ⟨⟨v1, rfl, hv1⟩, hb1⟩
 have HV1 := Lib.hid hv1
 have HB1 := Lib.hid hb1
 clear hb1 hv1
 go_wp2_with fail
 refine (HB.out _ HB1.out).mono ?_
 rintro e2 w2 ⟨⟨v2, rfl, hv2⟩, hb2⟩
 have HV1 := Lib.hid (HV1.out.below hb2)
 have HV2 := Lib.hid hv2
 have HB2 := Lib.hid (HB1.out.trans (hb2.mono HB1.out.size))
 clear hb2 hv2
 go_wp2_with fail
 refine (HC.out _ _ _ HV1.out HV2.out).mono ?_
 rintro e3 w3 ⟨rfl, hb3⟩
 have HB3 := Lib.hid (HB2.out.trans (hb3.mono HB2.out.size))
 clear hb3
 go_wp2_with fail
 go_ret
 exact ⟨rfl, HB3.out⟩
theorem splitG_pos : ∀ (p r : List Nat), 0 < (splitG p r).length
 | p, [] => by simp [splitG]
 | p, c :: r => by
  rw [splitG]
  split
  ·simp
  ·exact splitG_pos _ _
theorem join_len {l : List (List UInt8)} {s : List UInt8} {M : Nat} (h : ∀ x ∈ l, x.length ≤ M) : (Lib.join l s).length ≤ l.length * (M + s.length) := by
 have hl : ∀ l : List (List UInt8), (∀ x ∈ l, x.length ≤ M) → Lib.lens l ≤ l.length * M := by
  intro l
  induction l with
  | nil => intro _; exact Nat.zero_le _
  | cons a r ih =>
   intro h
   have h1 := ih fun x hx => h x (List.mem_cons_of_mem _ hx)
   have h2 := h a List.mem_cons_self
   rw [List.length_cons, Nat.add_mul, Nat.one_mul]
   simp only [Lib.lens, List.map_cons, List.sum_cons] at h1 ⊢
   omega
 cases l with
 | nil => rw [Lib.join_nil]; exact Nat.zero_le _
 | cons a r =>
  have h1 := hl _ h
  rw [Lib.join_length]
  rw [List.length_cons, Nat.mul_add] at *
  have h3 : s.length * r.length ≤ (r.length + 1) * s.length := by rw [Nat.mul_comm]; exact Nat.mul_le_mul (by omega) (Nat.le_refl _)
  omega
theorem pparent_ok (w : World) (p : ByteArray) (hp : pathE (bs p) = 0) (h0 : p.size ≠ 0) (hT : Tab w) : Calls Tryz.prog 107 #[.string p] w fun e w' => e = .returned (.tuple #[.string (parB p), .int .i64 0]) ∧ Below w.heap.size w w' := by
 have hz := pathE_len hp
 have HS := Lib.hid (psplit_gen w p (by omega) hT)
 rw [hp, if_pos rfl] at HS
 have hne : 0 < (elemsB p).length := by
  rw [elemsB_len]
  unfold elemsL
  have h2 : bs p ≠ [] := fun q => h0 (by have := congrArg List.length q; rwa [bs_len] at this)
  rw [if_neg h2]
  exact splitG_pos _ _
 have hsz : ∀ x ∈ elemsB p, x.size ≤ 200 := fun x hx => by
  obtain ⟨y, hy, rfl⟩ := List.mem_map.1 hx
  rw [strB_size]
  have := (elemsL_size (s := bs p)).1 y hy
  rw [bs_len] at this
  omega
 have hjl : (Lib.join ((elemsB p).dropLast.map (·.data.toList)) (⟨#[47]⟩ : ByteArray).data.toList).length ≤ 140737488355328 := by
  have h1 := join_len (l := (elemsB p).dropLast.map (·.data.toList)) (s := (⟨#[47]⟩ : ByteArray).data.toList) (M := 200) (fun x hx => by
   obtain ⟨y, hy, rfl⟩ := List.mem_map.1 hx
   have := hsz y (List.dropLast_subset _ hy)
   rw [Array.length_toList]
   exact this)
  rw [List.length_map, List.length_dropLast] at h1
  have h2 : (⟨#[47]⟩ : ByteArray).data.toList.length = 1 := rfl
  rw [h2] at h1
  have h3 := Nat.mul_le_mul (show (elemsB p).length - 1 ≤ 8 by omega) (Nat.le_refl (200 + 1))
  omega
 have HJ := Lib.hid (fun (W : World) (b o c : Nat) (hc : ∀ (j : Nat) x, (elemsB p).dropLast[j]? = some x → W.cell? ⟨b, o + j, none⟩ = some (.string x)) (hb : b < W.heap.size) (hcap : (elemsB p).dropLast.length ≤ c) => Tryz.strings_Join b o c (elemsB p).dropLast ⟨#[47]⟩ W hc hb (by rw [List.length_dropLast]; omega) hcap hjl)
 have HPj : Hid (parB p = ⟨(Lib.join ((elemsB p).dropLast.map (·.data.toList)) (⟨#[47]⟩ : ByteArray).data.toList).toArray⟩) := Lib.hid rfl
 rw [← HPj.out] at HJ
 generalize parB p = X at *
 have hm8 := hz.2
 generalize elemsB p = L at *
 rw [List.dropLast_eq_take] at HJ
 clear hz hjl hsz HPj hp h0 hT
 go_enter Tryz.func107, Tryz.ntmps107
 go_wp2_with fail
 refine HS.out.mono ?_
 rintro e1 w1 ⟨⟨v1, rfl, hv1⟩, hb1⟩
 have HV1 := Lib.hid hv1
 have HB1 := Lib.hid hb1
 clear hb1 hv1
 obtain ⟨A1, c1, rfl, k1, k2⟩ := HV1.out.slice
 obtain ⟨x0, hx0⟩ : ∃ x, L[0]? = some x := ⟨_, List.getElem?_eq_getElem hne⟩
 obtain ⟨_, _, e9, _, _, d4⟩ := HV1.out
 cases e9
 obtain ⟨b, o, cs, rfl, rfl, hc⟩ := d4 0 x0 hx0
 have hbl : b < w1.heap.size := block_lt_of_cell (hc 0 _ rfl)
 have HCl : Hid (∀ (j : Nat) x, (L.take (L.length - 1))[j]? = some x → w1.cell? ⟨b, o + j, none⟩ = some (.string x)) := Lib.hid (fun j x hx => by
  rw [List.getElem?_take] at hx
  split at hx
  ·obtain ⟨b', o', cs', e6, rfl, hc'⟩ := d4 j x hx
   cases e6
   have := hc' 0 _ rfl
   rwa [show strS.n = 1 from rfl, Nat.mul_one] at this
  ·cases hx)
 have HJ1 := Lib.hid (HJ.out w1 b o c1 HCl.out hbl (by rw [List.length_take]; omega))
 rw [show (L.take (L.length - 1)).length = L.length - 1 by rw [List.length_take]; omega] at HJ1
 have i0 : ((L.length : Int) == 0) = false := by rw [beq_eq_false_iff_ne]; omega
 obtain ⟨n, hn⟩ : ∃ n, L.length = n + 1 := ⟨L.length - 1, by omega⟩
 rw [hn] at i0 k1 HJ1 ⊢
 rw [show n + 1 - 1 = n by omega] at HJ1
 have jw : IntKind.i64.wrap (((n + 1 : Nat) : Int) - 1) = (n : Int) := by rw [IntWalk.i64_in _ (by omega)]; omega
 have jw2 : ((n + 1 : Nat) : Int) - 1 = (n : Int) := by omega
 have jc : (n : Int) ≤ c1 := by omega
 have jn : ((n : Int)).toNat = n := Int.toNat_natCast n
 clear hc d4 hx0 hne hm8 HCl HV1
 go_wp2_with fail
 refine HJ1.out.mono ?_
 rintro e3 w3 ⟨rfl, hb3⟩
 have HB3 := Lib.hid (HB1.out.trans (hb3.mono HB1.out.size))
 clear hb3
 go_wp2_with fail
 go_ret2
 exact ⟨rfl, HB3.out⟩
theorem idxP_some {α : Type} {f : α → Bool} : ∀ {l : List α} {k : Nat} {x : α}, (∀ j y, j < k → l[j]? = some y → f y = false) → l[k]? = some x → f x = true → idxP f l = some k
 | [], k, x, _, hx, _ => by simp at hx
 | a :: r, 0, x, _, hx, hf => by
  obtain rfl : a = x := by simpa using hx
  rw [idxP, if_pos hf]
 | a :: r, k + 1, x, h, hx, hf => by
  have h0 := h 0 a (by omega) rfl
  rw [idxP, if_neg (by rw [h0]; decide), idxP_some (l := r) (k := k) (fun j y hj hy => h (j + 1) y (by omega) (by simpa using hy)) (by simpa using hx) hf]
  rfl
theorem idxP_none {α : Type} {f : α → Bool} : ∀ {l : List α}, (∀ x ∈ l, f x = false) → idxP f l = none
 | [], _ => rfl
 | a :: r, h => by
  rw [idxP, if_neg (by rw [h a List.mem_cons_self]; decide), idxP_none fun x hx => h x (List.mem_cons_of_mem _ hx)]
  rfl
theorem idxP_at {α : Type} {f : α → Bool} : ∀ {l : List α} {k : Nat}, idxP f l = some k → ∃ x, l[k]? = some x ∧ f x = true
 | [], k, h => by cases h
 | a :: r, k, h => by
  rw [idxP] at h
  cases hf : f a with
  | true =>
   rw [hf, if_pos rfl] at h
   cases h
   exact ⟨a, rfl, hf⟩
  | false =>
   rw [hf, if_neg (by decide)] at h
   cases e : idxP f r with
   | none => rw [e] at h; cases h
   | some j =>
    rw [e] at h
    cases h
    obtain ⟨x, hx, hfx⟩ := idxP_at e
    exact ⟨x, by simpa using hx, hfx⟩
theorem find_idx {α : Type} {f : α → Bool} : ∀ {l : List α}, l.find? f = match idxP f l with | some k => l[k]? | none => none
 | [] => rfl
 | a :: r => by
  rw [idxP, List.find?_cons]
  cases hf : f a with
  | true => rw [if_pos rfl]; rfl
  | false =>
   rw [if_neg (by decide), find_idx (l := r)]
   cases idxP f r with
   | none => rfl
   | some j => simp
def idxI : Option Nat → Int
 | some k => (k : Int)
 | none => -1
def JudgeE (g : Nat) (lb : Array Value) (p : Ent → Bool) (l : List Ent) (w : World) : Prop :=
 ∀ (W : World) (x : Ent) (Aa Ax : Option Addr) (ca cx : Nat), Below w.heap.size w W → x ∈ l → Calls Tryz.prog g (#[entV x (.slice Aa x.attrs.length ca) (.slice Ax x.exts.length cx)] ++ lb) W fun e w' => e = .returned (.bool (p x)) ∧ Below W.heap.size W w'
theorem idxEnt_any (w : World) (v : Value) (l : List Ent) (hl : SeqAt entS w v l) (g : Nat) (lb : Array Value) (eg : ∀ args w, (callFunc g args).run Tryz.prog w = .ok (.enter g args) w) (p : Ent → Bool) (hp : JudgeE g lb p l w) :
  Calls Tryz.prog 184 #[v, .func (.func g) #[] lb] w fun e w' => e = .returned (.int .i64 (idxI (idxP p l))) ∧ Below w.heap.size w w' := by
 have HL := Lib.hid hl
 obtain ⟨A, c, rfl, h1, h2⟩ := hl.slice
 have HP := Lib.hid hp
 obtain ⟨R, hR⟩ : ∃ R, idxP p l = R := ⟨_, rfl⟩
 rw [hR]
 have HR := Lib.hid hR
 clear hl hp hR
 go_enter Tryz.func184, Tryz.ntmps184
 go_wp2
 go_loopw [8] (fun i wr => ∃ k : Nat, k ≤ l.length ∧ i = .int .i64 k ∧ (∀ (j : Nat) (y : Ent), j < k → l[j]? = some y → p y = false) ∧ Below w.heap.size w wr) (fun i _ => l.length - (intOf i).toNat)
 case atStart => exact ⟨0, Nat.zero_le _, rfl, fun j r h => absurd h (Nat.not_lt_zero _), Below.refl _ _⟩
 case round =>
  obtain ⟨k, hk, rfl, hr, hB⟩ := hrel
  have Hr := Lib.hid hr
  have HB := Lib.hid hB
  clear hr hB
  by_cases hlt : k < l.length
  ·have hkI : (k : Int) < l.length := by omega
   obtain ⟨x, hx⟩ : ∃ x, l[k]? = some x := ⟨_, List.getElem?_eq_getElem hlt⟩
   have Hx := Lib.hid hx
   obtain ⟨_, _, e9, _, _, h4⟩ := HL.out.below HB.out
   cases e9
   obtain ⟨b, o, cs, rfl, ⟨va, vx, rfl, ra, rx⟩, hc⟩ := h4 k x hx
   obtain ⟨Aa, ca, rfl, _, _⟩ := ra.slice
   obtain ⟨Ax, cx, rfl, _, _⟩ := rx.slice
   have HC := Lib.hid (HP.out wr x Aa Ax ca cx HB.out (List.mem_of_getElem? hx))
   obtain ⟨q, hq⟩ : ∃ q, p x = q := ⟨_, rfl⟩
   have HQ := Lib.hid hq
   rw [hq, entV] at HC
   have e0 : wr.cell? ⟨b, o + k * 7, none⟩ = some (.int .i64 x.k) := hc 0 _ rfl
   have e1 : wr.cell? ⟨b, o + k * 7 + 1, none⟩ = some (.string x.path) := hc 1 _ rfl
   have e2 : wr.cell? ⟨b, o + k * 7 + 2, none⟩ = some (.slice Aa x.attrs.length ca) := hc 2 _ rfl
   have e3 : wr.cell? ⟨b, o + k * 7 + 3, none⟩ = some (.string x.tgt) := hc 3 _ rfl
   have e4 : wr.cell? ⟨b, o + k * 7 + 4, none⟩ = some (.int .i64 x.size) := hc 4 _ rfl
   have e5 : wr.cell? ⟨b, o + k * 7 + 5, none⟩ = some (.string x.dig) := hc 5 _ rfl
   have e6 : wr.cell? ⟨b, o + k * 7 + 6, none⟩ = some (.slice Ax x.exts.length cx) := hc 6 _ rfl
   clear hc h4 hx hq ra rx
   go_wp2_with fail
   refine HC.out.mono ?_
   rintro e w2 ⟨rfl, hb2⟩
   have HB2 := Lib.hid (HB.out.trans (hb2.mono HB.out.size))
   clear hb2 e0 e1 e2 e3 e4 e5 e6
   cases q with
   | true =>
    have hr : R = some k := by rw [← HR.out]; exact idxP_some Hr.out Hx.out HQ.out
    subst hr
    go_wp2
    go_ret
    exact ⟨rfl, HB2.out⟩
   | false =>
    go_wp2
    go_roundw
    case rel =>
     refine ⟨k + 1, by omega, by go_num, fun j r hj he => ?_, HB2.out⟩
     rcases Nat.lt_succ_iff_lt_or_eq.1 hj with h | rfl
     ·exact Hr.out j r h he
     ·rw [Hx.out] at he
      cases he
      exact HQ.out
    case measure => simp [intOf]; omega
  ·have hkI : ¬ (k : Int) < l.length := by omega
   have hr : R = none := by
    rw [← HR.out]
    refine idxP_none fun x hx => ?_
    obtain ⟨j, hj⟩ := List.mem_iff_getElem?.1 hx
    exact Hr.out j x (by have := (List.getElem?_eq_some_iff.1 hj).1; omega) hj
   subst hr
   go_wp2
   go_ret
   exact ⟨rfl, HB.out⟩
theorem dtfind1_any (w : World) (x : Ent) (va vx : Value) (g : Nat) (p : ByteArray) (hg : Blk w g 9 [.string p]) : Calls Tryz.prog 185 #[entV x va vx, .pointer (some ⟨g, 0, none⟩)] w fun e w' => e = .returned (.bool (decide (x.path = p))) ∧ Below w.heap.size w w' := by
 obtain ⟨k, path, attrs, t, size, dig, exts⟩ := x
 rw [entV]
 dsimp only
 have hK := Blk.new w 48 [.int .i64 k, .string path, va, .string t, .int .i64 size, .string dig, vx]
 change Blk (w.alloc (.cells #[.int .i64 k, .string path, va, .string t, .int .i64 size, .string dig, vx] 48)) _ _ _ at hK
 have c1 := hK.cell (i := 1) rfl
 have c2 := (hg.alloc (.cells #[.int .i64 k, .string path, va, .string t, .int .i64 size, .string dig, vx] 48)).cell (i := 0) rfl
 have HB := Lib.hid ((Below.refl w.heap.size w).alloc (Nat.le_refl _) (.cells #[.int .i64 k, .string path, va, .string t, .int .i64 size, .string dig, vx] 48))
 clear hK hg
 by_cases h : path = p
 ·subst h
  have q1 : (path == path) = true := beqV_true rfl
  have q2 : (path.toList == path.toList) = true := beq_iff_eq.2 rfl
  rw [decide_eq_true rfl]
  go_enter Tryz.func185, Tryz.ntmps185
  go_wp2
  go_ret
  exact ⟨by first | rfl | exact ret_bool' (by simp), HB.out⟩
 ·have q1 : (path == p) = false := beqV_false h
  have q2 : (path.toList == p.toList) = false := by
   rw [beq_eq_false_iff_ne]
   exact fun e => h (by rw [ByteArray.toList_eq, ByteArray.toList_eq] at e; exact ByteArray.ext (Array.toList_inj.1 e))
  rw [decide_eq_false h]
  clear h
  go_enter Tryz.func185, Tryz.ntmps185
  go_wp2
  go_ret
  exact ⟨by first | rfl | exact ret_bool' (by first | exact q1 | exact q2 | simp [q1, q2]), HB.out⟩
theorem dtfind_any (w : World) (v : Value) (t : List Ent) (hv : SeqAt entS w v t) (p : ByteArray) : Calls Tryz.prog 101 #[v, .string p] w fun e w' => e = .returned (.int .i64 (idxI (idxT t p))) ∧ Below w.heap.size w w' := by
 have hB := (Below.refl w.heap.size w).alloc (Nat.le_refl _) (.cells #[.string p] 9)
 have HB := Lib.hid hB
 have hK := Blk.new w 9 [.string p]
 change Blk (w.alloc (.cells #[.string p] 9)) _ _ _ at hK
 have HX := Lib.hid (idxEnt_any _ v t (hv.below hB) 185 #[.pointer (some ⟨w.heap.size, 0, none⟩)] (enters_of Tryz.func185 (by kernel_rfl) rfl) (fun x => decide (x.path = p)) (fun W x Aa Ax ca cx hW _ => dtfind1_any W x _ _ w.heap.size p (hK.kept hW)))
 rw [← idxT] at HX
 obtain ⟨A, c, rfl, _, _⟩ := hv.slice
 clear hv hK hB
 go_enter Tryz.func101, Tryz.ntmps101
 go_wp2_with fail
 refine HX.out.mono ?_
 rintro e1 w1 ⟨rfl, hb1⟩
 have HB1 := Lib.hid (HB.out.trans (hb1.mono HB.out.size))
 clear hb1
 go_wp2_with fail
 go_ret
 exact ⟨rfl, HB1.out⟩
def entZ : Value := .agg #[.int .i64 0, .string ⟨#[]⟩, .slice none 0 0, .string ⟨#[]⟩, .int .i64 0, .string ⟨#[]⟩, .slice none 0 0]
def GetR (o : Option Ent) (r : Ending) : Prop := match o with
 | none => r = .returned (.tuple #[entZ, .bool false])
 | some x => ∃ Aa Ax ca cx, r = .returned (.tuple #[entV x (.slice Aa x.attrs.length ca) (.slice Ax x.exts.length cx), .bool true])
theorem getT_idx (t : List Ent) (p : ByteArray) : getT t p = match idxT t p with | some k => t[k]? | none => none := find_idx
theorem dtget_any (w : World) (v : Value) (t : List Ent) (hv : SeqAt entS w v t) (p : ByteArray) : Calls Tryz.prog 113 #[v, .string p] w fun e w' => GetR (getT t p) e ∧ Below w.heap.size w w' := by
 have hZ := Blk.new w 48 [.int .i64 0, .string ⟨#[]⟩, .slice none 0 0, .string ⟨#[]⟩, .int .i64 0, .string ⟨#[]⟩, .slice none 0 0]
 change Blk (w.alloc (.cells #[.int .i64 0, .string ⟨#[]⟩, .slice none 0 0, .string ⟨#[]⟩, .int .i64 0, .string ⟨#[]⟩, .slice none 0 0] 48)) _ _ _ at hZ
 have HZ0 := Lib.hid hZ
 have HB0 := Lib.hid ((Below.refl w.heap.size w).alloc (Nat.le_refl _) (.cells #[.int .i64 0, .string ⟨#[]⟩, .slice none 0 0, .string ⟨#[]⟩, .int .i64 0, .string ⟨#[]⟩, .slice none 0 0] 48))
 have HF := Lib.hid (fun W (hW : Below w.heap.size w W) => dtfind_any W v t (hv.below hW) p)
 have Hv := Lib.hid hv
 obtain ⟨A, c, rfl, h1, h2⟩ := hv.slice
 rw [getT_idx]
 clear hv hZ
 cases hI : idxT t p with
 | none =>
  rw [hI] at HF
  have hbt : (Tryz.prog.built 48 []) = some #[.int .i64 0, .string ⟨#[]⟩, .slice none 0 0, .string ⟨#[]⟩, .int .i64 0, .string ⟨#[]⟩, .slice none 0 0] := by kernel_rfl
  have hmap : ∀ f : Nat × Operand → Nat × Value, (Array.map f #[]).toList = [] := fun f => by simp
  rw [show idxI none = -1 from rfl] at HF
  clear hI
  go_enter Tryz.func113, Tryz.ntmps113
  go_upto_region 1 with fail
  generalize w.alloc (.cells #[.int .i64 0, .string ⟨#[]⟩, .slice none 0 0, .string ⟨#[]⟩, .int .i64 0, .string ⟨#[]⟩, .slice none 0 0] 48) = wa at *
  go_wp2_with fail
  refine (HF.out _ HB0.out).mono ?_
  rintro e1 w1 ⟨rfl, hb1⟩
  have HZ := Lib.hid (HZ0.out.kept hb1)
  have HB := Lib.hid (HB0.out.trans (hb1.mono HB0.out.size))
  clear hb1
  go_upto_region 3 with fail
  refine wp_region_lit ?_
  refine wpList_build rfl 48 #[] rfl (by rw [hmap, hbt]; rfl) ?_
  rw [hmap, hbt]
  refine wpList_store_row rfl 48 (.tmp 4) (.tmp 12) rfl w.heap.size #[.int .i64 0, .string ⟨#[]⟩, .slice none 0 0, .string ⟨#[]⟩, .int .i64 0, .string ⟨#[]⟩, .slice none 0 0] rfl rfl 48 _ HZ.out (by kernel_rfl) rfl (by simp [Value.oneCell']) ?_
  go_wp2_with fail
  refine bodyPost_ret (results_row_tmp rfl _ _ w.heap.size 48 _ (0, 0) _ rfl (setRow_heap _ _ _ _ _ _ HZ.out) Tryz.underlying48 rfl (by kernel_rfl)) rfl ?_
  exact ⟨rfl, below_setRow HB.out (Nat.le_refl _) _⟩
 | some k =>
  rw [hI] at HF
  obtain ⟨x, hx, _⟩ := idxP_at hI
  have hlt : k < t.length := (List.getElem?_eq_some_iff.1 hx).1
  have hkI : (k : Int) < t.length := by omega
  have hk0 : ¬ (k : Int) < 0 := by omega
  have Hx := Lib.hid hx
  rw [show idxI (some k) = (k : Int) from rfl] at HF
  clear hI
  go_enter Tryz.func113, Tryz.ntmps113
  go_upto_region 1 with fail
  generalize w.alloc (.cells #[.int .i64 0, .string ⟨#[]⟩, .slice none 0 0, .string ⟨#[]⟩, .int .i64 0, .string ⟨#[]⟩, .slice none 0 0] 48) = wa at *
  go_wp2_with fail
  refine (HF.out _ HB0.out).mono ?_
  rintro e1 w1 ⟨rfl, hb1⟩
  have HZ := Lib.hid (HZ0.out.kept hb1)
  have HB := Lib.hid (HB0.out.trans (hb1.mono HB0.out.size))
  clear hb1
  obtain ⟨_, _, e9, _, _, h4⟩ := Hv.out.below HB.out
  cases e9
  obtain ⟨b, o, cs, rfl, ⟨va, vx, rfl, ra, rx⟩, hc⟩ := h4 k x hx
  obtain ⟨Aa, ca, rfl, _, _⟩ := ra.slice
  obtain ⟨Ax, cx, rfl, _, _⟩ := rx.slice
  have e0 : w1.cell? ⟨b, o + k * 7, none⟩ = some (.int .i64 x.k) := hc 0 _ rfl
  have e1 : w1.cell? ⟨b, o + k * 7 + 1, none⟩ = some (.string x.path) := hc 1 _ rfl
  have e2 : w1.cell? ⟨b, o + k * 7 + 2, none⟩ = some (.slice Aa x.attrs.length ca) := hc 2 _ rfl
  have e3 : w1.cell? ⟨b, o + k * 7 + 3, none⟩ = some (.string x.tgt) := hc 3 _ rfl
  have e4 : w1.cell? ⟨b, o + k * 7 + 4, none⟩ = some (.int .i64 x.size) := hc 4 _ rfl
  have e5 : w1.cell? ⟨b, o + k * 7 + 5, none⟩ = some (.string x.dig) := hc 5 _ rfl
  have e6 : w1.cell? ⟨b, o + k * 7 + 6, none⟩ = some (.slice Ax x.exts.length cx) := hc 6 _ rfl
  clear hc h4 hx ra rx
  go_wp2_with (refine wpList_store_row rfl 48 (.tmp 4) (.tmp 16) rfl w.heap.size #[.int .i64 x.k, .string x.path, .slice Aa x.attrs.length ca, .string x.tgt, .int .i64 x.size, .string x.dig, .slice Ax x.exts.length cx] rfl rfl 48 _ HZ.out (by kernel_rfl) rfl (by simp [Value.oneCell']) ?_)
  refine bodyPost_ret (results_row_tmp rfl _ _ w.heap.size 48 _ (0, 0) _ rfl (setRow_heap _ _ _ _ _ _ HZ.out) Tryz.underlying48 rfl (by kernel_rfl)) rfl ?_
  exact ⟨by show GetR (t[k]?) _; rw [Hx.out]; exact ⟨Aa, Ax, ca, cx, rfl⟩, below_setRow HB.out (Nat.le_refl _) _⟩
theorem dtdir_any (w : World) (v : Value) (t : List Ent) (hv : SeqAt entS w v t) (p : ByteArray) : Calls Tryz.prog 108 #[v, .string p] w fun e w' => e = .returned (.int .i64 (dirE t p)) ∧ Below w.heap.size w w' := by
 have HG := Lib.hid (dtget_any w v t hv p)
 obtain ⟨A, c, rfl, h1, h2⟩ := hv.slice
 obtain ⟨R, hR⟩ : ∃ R, dirE t p = R := ⟨_, rfl⟩
 rw [hR]
 rw [dirE] at hR
 clear hv
 cases hG : getT t p with
 | none =>
  rw [hG] at HG hR
  clear hG
  go_enter Tryz.func108, Tryz.ntmps108
  go_wp2_with fail
  refine HG.out.mono ?_
  rintro e1 w1 ⟨hr, hb1⟩
  have hr : e1 = .returned (.tuple #[entZ, .bool false]) := hr
  subst hr
  rw [entZ]
  have HB1 := Lib.hid (hb1.alloc hb1.size (.cells #[.int .i64 0, .string ⟨#[]⟩, .slice none 0 0, .string ⟨#[]⟩, .int .i64 0, .string ⟨#[]⟩, .slice none 0 0] 48))
  clear hb1
  by_cases h0 : p.size = 0
  ·have e0 : p = ⟨#[]⟩ := by
    apply ByteArray.ext
    exact Array.eq_empty_of_size_eq_zero h0
   rw [if_pos h0] at hR
   subst hR
   subst e0
   clear h0
   go_wp2_with fail
   go_ret
   exact ⟨rfl, HB1.out⟩
  ·have e0 : p.toList.isEmpty = false := isEmptyV h0
   rw [if_neg h0] at hR
   have hR : 9 = R := hR
   subst hR
   clear h0
   go_wp2_with fail
   go_ret
   exact ⟨rfl, HB1.out⟩
 | some x =>
  rw [hG] at HG hR
  clear hG
  go_enter Tryz.func108, Tryz.ntmps108
  go_wp2_with fail
  refine HG.out.mono ?_
  rintro e1 w1 ⟨⟨Aa, Ax, ca, cx, rfl⟩, hb1⟩
  rw [entV]
  have HB1 := Lib.hid (hb1.alloc hb1.size (.cells #[.int .i64 x.k, .string x.path, .slice Aa x.attrs.length ca, .string x.tgt, .int .i64 x.size, .string x.dig, .slice Ax x.exts.length cx] 48))
  have hK := Blk.new w1 48 [.int .i64 x.k, .string x.path, .slice Aa x.attrs.length ca, .string x.tgt, .int .i64 x.size, .string x.dig, .slice Ax x.exts.length cx]
  change Blk (w1.alloc (.cells #[.int .i64 x.k, .string x.path, .slice Aa x.attrs.length ca, .string x.tgt, .int .i64 x.size, .string x.dig, .slice Ax x.exts.length cx] 48)) _ _ _ at hK
  have k0 := hK.cell (i := 0) rfl
  clear hb1 hK
  by_cases h0 : p.size = 0
  ·have e0 : p = ⟨#[]⟩ := by
    apply ByteArray.ext
    exact Array.eq_empty_of_size_eq_zero h0
   rw [if_pos h0] at hR
   subst hR
   subst e0
   clear h0
   go_wp2_with fail
   go_ret
   exact ⟨rfl, HB1.out⟩
  ·have e0 : p.toList.isEmpty = false := isEmptyV h0
   rw [if_neg h0] at hR
   have hR : (if x.k = 2 then 0 else 10) = R := hR
   by_cases h2 : x.k = 2
   ·have q1 : (x.k != 2) = false := by rw [h2]; rfl
    rw [if_pos h2] at hR
    subst hR
    clear h0 h2
    go_wp2_with fail
    go_ret
    exact ⟨rfl, HB1.out⟩
   ·have q1 : (x.k != 2) = true := by rw [bne, beq_eq_false_iff_ne.2 h2]; rfl
    rw [if_neg h2] at hR
    subst hR
    clear h0 h2
    go_wp2_with fail
    go_ret
    exact ⟨rfl, HB1.out⟩
theorem dtin_any (w : World) (k : Int) : Calls Tryz.prog 102 #[.int .i64 k] w fun e w' => e = .returned (.bool (decide (k = 1 ∨ k = 2 ∨ k = 3))) ∧ w = w' := by
 by_cases h1 : k = 1
 ·subst h1
  go_enter Tryz.func102, Tryz.ntmps102
  go_wp2
  go_ret
  exact ⟨by first | rfl | exact ret_bool' (by simp), rfl⟩
 ·have i1 : (k == 1) = false := beq_eq_false_iff_ne.2 h1
  by_cases h2 : k = 2
  ·subst h2
   go_enter Tryz.func102, Tryz.ntmps102
   go_wp2
   go_ret
   exact ⟨by first | rfl | exact ret_bool' (by simp), rfl⟩
  ·have i2 : (k == 2) = false := beq_eq_false_iff_ne.2 h2
   by_cases h3 : k = 3
   ·subst h3
    go_enter Tryz.func102, Tryz.ntmps102
    go_wp2
    go_ret
    exact ⟨by first | rfl | exact ret_bool' (by simp), rfl⟩
   ·have i3 : (k == 3) = false := beq_eq_false_iff_ne.2 h3
    rw [decide_eq_false (by omega)]
    clear h1 h2 h3
    go_enter Tryz.func102, Tryz.ntmps102
    go_wp2
    go_ret
    exact ⟨by first | rfl | exact ret_bool' (by simp [i1, i2, i3]), rfl⟩
end
end Go.Proofs.YtbccghbngaiceaaGreatDoor
