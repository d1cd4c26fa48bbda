/-
 WALKS: stelelaw44.pieces, few.
-/
import Derived.Test.YtnlnmfkmbpihhaaGreatDoorCoK
import Derived.Test.YtnlnmfkmbpihhaaGreatDoorCoV
namespace Go.Proofs.YtnlnmfkmbpihhaaGreatDoor
open Go.RowKit

/-- A part of a slice of frames. -/
theorem FrmsAt.part {W : World} {b o n c : Nat} {fs : List Frm} (h : FrmsAt W (.slice (some ⟨b, o, none⟩) n c) fs) (i m : Nat) (hi : i + m ≤ fs.length) : FrmsAt W (.slice (some ⟨b, o + i * 9, none⟩) m (c - i)) ((fs.drop i).take m) := by
 obtain ⟨A, c', e, h1, h2, h3⟩ := h
 cases e
 have hlen : ((fs.drop i).take m).length = m := by rw [List.length_take, List.length_drop]; omega
 refine ⟨_, c - i, by rw [hlen], by rw [hlen]; omega, by omega, fun j f hf => ?_⟩
 have hj : j < m := by
  have := (List.getElem?_eq_some_iff.1 hf).1
  omega
 rw [List.getElem?_take, if_pos hj, List.getElem?_drop] at hf
 obtain ⟨b', o', e, h4⟩ := h3 _ f hf
 cases e
 exact ⟨_, _, rfl, fun q u hu => by
  have := h4 q u hu
  rwa [show o + (i + j) * 9 + q = o + i * 9 + j * 9 + q by omega] at this⟩
theorem Tryz.infoStrC : (Tryz.prog.info? 9).map (fun i => (i.zero, i.size, i.bytes)) = some (some (.string ⟨#[]⟩), 1, 16) := by kernel_rfl

theorem own_sliceU {W : World} {B n size : Nat} {t : TypeId} {v : Value} {xs : List Value} (h : W.ownsRow B t size v n xs) : ∃ A c, v = .slice A n c := by
 rcases h.2 with ⟨e, rfl⟩ | ⟨g, cap, _, e, _⟩
 ·exact ⟨_, _, e⟩
 ·exact ⟨_, _, e⟩
/-- Where a row of the call's own lies. -/
theorem own_at {W : World} {B n size : Nat} {t : TypeId} {v : Value} {xs : List Value} (h : W.ownsRow B t size v n xs) (hn : 0 < n) : ∃ g c, v = .slice (some ⟨g, 0, none⟩) n c ∧ B ≤ g := by
 rcases h.2 with ⟨e, h0⟩ | ⟨g, cap, _, e, hb, _⟩
 ·omega
 ·exact ⟨_, _, e, hb⟩
theorem own_free {W : World} {B n c g size : Nat} {t : TypeId} {xs : List Value} (h : W.ownsRow B t size (.slice (some ⟨g, 0, none⟩) n c) n xs) (j : Nat) : W.frozen? ⟨g, j, none⟩ = false := by
 rcases h.2 with ⟨e, _⟩ | ⟨g', cap, cur, e, _, hh, _⟩
 ·cases e
 ·cases e
  simp only [World.frozen?, hh]
  simp
/-- A row of strings of the call's own, read. -/
theorem StrvAt.of_own {W : World} {B : Nat} {v : Value} {ss : List ByteArray} (h : W.ownsRow B 9 1 v ss.length (ss.map .string)) : StrvAt W v ss := by
 by_cases h0 : 0 < ss.length
 ·obtain ⟨g, c, rfl, _⟩ := own_at h h0
  refine ⟨_, c, rfl, fun i s hi => ⟨g, 0, rfl, ?_⟩⟩
  have hl := (List.getElem?_eq_some_iff.1 hi).1
  rw [Nat.zero_add, h.cellAt i (by omega), List.getElem?_map, hi]
  rfl
 ·obtain ⟨A, c, rfl⟩ := own_sliceU h
  exact ⟨A, c, rfl, fun i s hi => absurd (List.getElem?_eq_some_iff.1 hi).1 (by omega)⟩

set_option maxRecDepth 100000 in
set_option maxHeartbeats 16000000 in
theorem pieces_any (w : World) (v vd : Value) (fs : List Frm) (D : List Nat) (sp : Nat) (hv : FrmsAt w v fs) (hd : U16At w vd D) (hl : fs.length ≤ 100) (ha : ∀ f ∈ fs, f.small) (hsp : sp < 65536) (hdb : ∀ x ∈ D, x < 65536)
  (hJ : ∀ (W : World) (v : Value) (gs : List Frm), FrmsAt W v gs → gs.length ≤ 100 → (∀ f ∈ gs, f.small) → Calls Tryz.prog 57 #[v] W fun e w' => e = .returned (.tuple #[.string (joinS gs), .int .i64 (joinE gs)]) ∧ Below W.heap.size W w') :
  Calls Tryz.prog 24 #[v, .int .u16 (sp : Int), vd] w fun e w' => ∃ v', e = .returned v' ∧ w'.ownsRow w.heap.size 9 1 v' (dmgP D (pcsL fs.length sp fs)).length ((dmgP D (pcsL fs.length sp fs)).map .string) ∧ Below w.heap.size w w' := by
 have Hv := Lib.hid hv
 have HD := Lib.hid hd
 have HDb := Lib.hid hdb
 clear hdb
 have Ha := Lib.hid ha
 obtain ⟨Ad, cd, rfl, hd1, hd2, _⟩ := hd
 have HJ := Lib.hid hJ
 obtain ⟨A, c, rfl, h1, h2, h3⟩ := hv
 clear h3 ha hJ
 obtain ⟨R, hR⟩ : ∃ R, pcsL fs.length sp fs = R := ⟨_, rfl⟩
 have HSz : Hid (∀ x ∈ R, 0 < x.size ∧ x.size ≤ 2556) := Lib.hid (by rw [← hR]; exact pcsL_size)
 rw [hR]
 have HR := Lib.hid hR
 clear hR
 obtain ⟨iS, hi, hq0, hq1, hq2⟩ := info_parts Tryz.infoStrC
 have HiS : Hid (Tryz.prog.info? 9 = some iS ∧ iS.zero = some (.string ⟨#[]⟩) ∧ iS.size = 1 ∧ iS.bytes = 16) := Lib.hid ⟨hi, hq0, hq1, hq2⟩
 clear hi hq0 hq1 hq2
 go_enter Tryz.func24, Tryz.ntmps24
 go_wp2
 go_loopw [1, 7, 8] (fun z y x wr => ∃ (i s k : Nat) (ss : List ByteArray), i ≤ fs.length ∧ s < 65536 ∧ z = .int .u16 (s : Int) ∧ x = .int .i64 (i : Int) ∧ fs.length - i ≤ k ∧ R = ss ++ pcsL k s (fs.drop i) ∧ ss.length ≤ i ∧ wr.ownsRow w.heap.size 9 1 y ss.length (ss.map .string) ∧ Below w.heap.size w wr) (fun _ _ x _ => fs.length - (intOf x).toNat)
 case atStart => exact ⟨0, sp, fs.length, [], by omega, hsp, rfl, rfl, by omega, by rw [List.drop_zero]; exact HR.out.symm, by simp, World.ownsRow_nil _ _ _ _, Below.refl _ _⟩
 case round =>
  obtain ⟨vo, rfl⟩ : ∃ x, x = u7 := ⟨_, rfl⟩
  obtain ⟨i, s, k, ss, hi, hs, rfl, rfl, hk, hr, hsl, ho, hB⟩ := hrel
  clear HR
  have HBr := Lib.hid hB
  have Ho := Lib.hid ho
  have Hr := Lib.hid hr
  have hbs := hB.size
  clear hB ho hr
  by_cases h : i < fs.length
  ·have hiI : (i : Int) < fs.length := by omega
   obtain ⟨f, hf⟩ : ∃ f, fs[i]? = some f := ⟨_, List.getElem?_eq_getElem h⟩
   obtain ⟨_, _, e9, _, _, h4⟩ := Hv.out
   cases e9
   obtain ⟨b, o, rfl, h5⟩ := h4 i f hf
   clear h4 h5 hf
   obtain ⟨n, hn⟩ : ∃ n, 1 + s % 3 = n := ⟨_, rfl⟩
   have hnI2 : 1 + (s : Int) % 3 = (n : Int) := by omega
   have hn0 : 1 ≤ n ∧ n ≤ 3 := by omega
   obtain ⟨s2, hs2⟩ : ∃ s2, s / 3 = s2 := ⟨_, rfl⟩
   have hq : Int.tdiv (s : Int) 3 = (s2 : Int) := by rw [Int.tdiv_eq_ediv_of_nonneg (by omega)]; omega
   have hq3 : s2 < 65536 := by omega
   have hmin : (min n (fs.length - i)) + i ≤ fs.length := by omega
   by_cases hc : fs.length - i < n
   ·have hcI : (n : Int) > (fs.length : Int) - (i : Int) := by omega
    obtain ⟨m, hm⟩ : ∃ m, fs.length - i = m := ⟨_, rfl⟩
    have hmI : (fs.length : Int) - (i : Int) = (m : Int) := by omega
    have ht : (fs.drop i).take n = (fs.drop i).take m := by rw [List.take_of_length_le (by rw [List.length_drop]; omega), List.take_of_length_le (by rw [List.length_drop]; omega)]
    have hdd : fs.drop (i + n) = fs.drop (i + m) := by rw [List.drop_of_length_le (by omega), List.drop_of_length_le (by omega)]
    obtain ⟨j, hj⟩ : ∃ j, i + m = j := ⟨_, rfl⟩
    have hsum : (i : Int) + (m : Int) = (j : Int) := by omega
    have hsub : (j : Int) - (i : Int) = (m : Int) := by omega
    have hin : i + m ≤ fs.length := by omega
    have hij : i ≤ j := by omega
    have hjc : j ≤ c := by omega
    have hsubN : j - i = m := by omega
    have hfv := (Hv.out.below HBr.out).part i m (by omega)
    have hgl : ((fs.drop i).take m).length ≤ 100 := by rw [List.length_take]; omega
    have HJ2 := Lib.hid (HJ.out wr _ _ hfv hgl (fun g hg => Ha.out g (List.mem_of_mem_drop (List.mem_of_mem_take hg))))
    clear hfv
    go_wp2_with fail
    refine HJ2.out.mono ?_
    rintro e w6 ⟨rfl, hb6⟩
    have Ho6 := Lib.hid (own_belowC Ho.out hb6)
    have HB6 := Lib.hid (HBr.out.trans (hb6.mono hbs))
    have hr := Hr.out
    obtain ⟨k', rfl⟩ : ∃ k', k = k' + 1 := ⟨k - 1, by omega⟩
    rw [pcsL_step (by intro e; have := congrArg List.length e; rw [List.length_drop] at this; simp at this; omega), hn, hs2, List.drop_drop, hdd, ht, hj, ← List.append_assoc] at hr
    have Hr2 := Lib.hid hr
    clear hr Hr hb6 Ho HBr HJ2
    generalize joinE ((fs.drop i).take m) = E at *
    generalize joinS ((fs.drop i).take m) = S at *
    by_cases hE : E = 0
    ·subst hE
     rw [if_pos rfl] at Hr2
     have Hnews : Hid (∀ (q : Nat) (x : Value), ([.string S] : List Value)[q]? = some x → (w6.alloc (.cells #[.string S] 9)).cell? ((⟨w6.heap.size, 0, none⟩ : Addr).add q) = some x) := Lib.hid (fun q x hq => by
      rw [Addr.add_lit, Nat.zero_add]
      exact (Blk.new w6 9 [.string S]).cell hq)
     have Hone : Hid (∀ x ∈ ([.string S] : List Value), x.oneCell' = true) := Lib.hid (by simp [Value.oneCell'])
     have HU := Lib.hid (Ho6.out.alloc (.cells #[.string S] 9))
     have HB := Lib.hid (HB6.out.alloc HB6.out.size (.cells #[.string S] 9))
     go_wp2_with (at_builtin; refine append_atC _ rfl _ _ 26 rfl w.heap.size 9 iS (.string ⟨#[]⟩) 1 16 Tryz.underlying26 HiS.out.1 HiS.out.2.1 HiS.out.2.2.1 HiS.out.2.2.2 rfl (by omega) vo ss.length _ rfl HU.out ⟨w6.heap.size, 0, none⟩ 1 1 _ rfl rfl Hnews.out Hone.out (by unfold maxLen; omega) (by omega) HB.out.size ?_; intro va wa hob hgb _; have KU := Lib.hid hob; have KB := Lib.hid (HB.out.grown hgb HB.out.size (own_geC HU.out)); clear hob hgb)
     go_roundw
     case rel => exact ⟨j, s2, k', ss ++ [S], by omega, hq3, rfl, rfl, by omega, Hr2.out, by simp; omega, by rw [List.length_append, List.map_append]; exact KU.out, KB.out⟩
     case measure => simp [intOf]; omega
    ·have hE2 : (E == 0) = false := by simpa using hE
     go_wp2
     go_roundw
     case rel => exact ⟨j, s2, k', ss, by omega, hq3, rfl, rfl, by omega, by have h := Hr2.out; rw [if_neg hE, List.append_nil] at h; exact h, by omega, Ho6.out, HB6.out⟩
     case measure => simp [intOf]; omega
   ·have hcI : ¬ (n : Int) > (fs.length : Int) - (i : Int) := by omega
    obtain ⟨j, hj⟩ : ∃ j, i + n = j := ⟨_, rfl⟩
    have hsum : (i : Int) + (n : Int) = (j : Int) := by omega
    have hsub : (j : Int) - (i : Int) = (n : Int) := by omega
    have hin : i + n ≤ fs.length := by omega
    have hij : i ≤ j := by omega
    have hjc : j ≤ c := by omega
    have hsubN : j - i = n := by omega
    have hfv := (Hv.out.below HBr.out).part i n (by omega)
    have hgl : ((fs.drop i).take n).length ≤ 100 := by rw [List.length_take]; omega
    have HJ2 := Lib.hid (HJ.out wr _ _ hfv hgl (fun g hg => Ha.out g (List.mem_of_mem_drop (List.mem_of_mem_take hg))))
    clear hfv
    go_wp2_with fail
    refine HJ2.out.mono ?_
    rintro e w6 ⟨rfl, hb6⟩
    have Ho6 := Lib.hid (own_belowC Ho.out hb6)
    have HB6 := Lib.hid (HBr.out.trans (hb6.mono hbs))
    have hr := Hr.out
    obtain ⟨k', rfl⟩ : ∃ k', k = k' + 1 := ⟨k - 1, by omega⟩
    rw [pcsL_step (by intro e; have := congrArg List.length e; rw [List.length_drop] at this; simp at this; omega), hn, hs2, List.drop_drop, hj, ← List.append_assoc] at hr
    have Hr2 := Lib.hid hr
    clear hr Hr hb6 Ho HBr HJ2
    generalize joinE ((fs.drop i).take n) = E at *
    generalize joinS ((fs.drop i).take n) = S at *
    by_cases hE : E = 0
    ·subst hE
     rw [if_pos rfl] at Hr2
     have Hnews : Hid (∀ (q : Nat) (x : Value), ([.string S] : List Value)[q]? = some x → (w6.alloc (.cells #[.string S] 9)).cell? ((⟨w6.heap.size, 0, none⟩ : Addr).add q) = some x) := Lib.hid (fun q x hq => by
      rw [Addr.add_lit, Nat.zero_add]
      exact (Blk.new w6 9 [.string S]).cell hq)
     have Hone : Hid (∀ x ∈ ([.string S] : List Value), x.oneCell' = true) := Lib.hid (by simp [Value.oneCell'])
     have HU := Lib.hid (Ho6.out.alloc (.cells #[.string S] 9))
     have HB := Lib.hid (HB6.out.alloc HB6.out.size (.cells #[.string S] 9))
     go_wp2_with (at_builtin; refine append_atC _ rfl _ _ 26 rfl w.heap.size 9 iS (.string ⟨#[]⟩) 1 16 Tryz.underlying26 HiS.out.1 HiS.out.2.1 HiS.out.2.2.1 HiS.out.2.2.2 rfl (by omega) vo ss.length _ rfl HU.out ⟨w6.heap.size, 0, none⟩ 1 1 _ rfl rfl Hnews.out Hone.out (by unfold maxLen; omega) (by omega) HB.out.size ?_; intro va wa hob hgb _; have KU := Lib.hid hob; have KB := Lib.hid (HB.out.grown hgb HB.out.size (own_geC HU.out)); clear hob hgb)
     go_roundw
     case rel => exact ⟨j, s2, k', ss ++ [S], by omega, hq3, rfl, rfl, by omega, Hr2.out, by simp; omega, by rw [List.length_append, List.map_append]; exact KU.out, KB.out⟩
     case measure => simp [intOf]; omega
    ·have hE2 : (E == 0) = false := by simpa using hE
     go_wp2
     go_roundw
     case rel => exact ⟨j, s2, k', ss, by omega, hq3, rfl, rfl, by omega, by have h := Hr2.out; rw [if_neg hE, List.append_nil] at h; exact h, by omega, Ho6.out, HB6.out⟩
     case measure => simp [intOf]; omega
  ·obtain rfl : i = fs.length := by omega
   have hr := Hr.out
   rw [List.drop_length, pcsL_nil, List.append_nil] at hr
   subst hr
   clear Hr
   have hiI : ¬ ((fs.length : Nat) : Int) < (fs.length : Int) := by omega
   cases R with
   | nil =>
    obtain ⟨A', c', rfl⟩ := own_sliceU Ho.out
    go_wp2
    go_ret
    exact ⟨_, rfl, Ho.out, HBr.out⟩
   | cons s r =>
    obtain ⟨wo, rfl⟩ : ∃ x, x = wr := ⟨_, rfl⟩
    obtain ⟨hs0, hs1⟩ := HSz.out s List.mem_cons_self
    obtain ⟨m, hm⟩ : ∃ m, (s :: r).length = m := ⟨_, rfl⟩
    rw [hm] at Ho
    have hm0 : 0 < m := by rw [← hm]; simp
    have hmI : (0 : Int) < (m : Int) := by omega
    obtain ⟨g, cap, rfl, hg⟩ := own_at Ho.out hm0
    have hcell : wo.cell? ⟨g, 0, none⟩ = some (.string s) := by
     rw [Ho.out.cellAt 0 (by omega)]
     rfl
    obtain ⟨cc, w1, hcv, hc1, hc2, hrow, hbb, hsz1⟩ := run_toBytes wo s (by omega)
    have HRow := Lib.hid hrow
    have HBb := Lib.hid hbb
    have Hcell := Lib.hid hcell
    have Hm := Lib.hid hm
    clear hrow hbb hsz1 hm
    go_wp2
    clear hcv hcell
    go_loopw [63] (fun y wx => ∃ i : Nat, i ≤ D.length ∧ y = .int .i64 (i : Int) ∧ RowB wx wo.heap.size (dmgB (D.take i) (bs s)) ∧ Below wo.heap.size wo wx) (fun y _ => D.length - (intOf y).toNat)
    case atStart => exact ⟨0, by omega, rfl, HRow.out, HBb.out⟩
    case round =>
     obtain ⟨i, hi, rfl, hR, hB⟩ := hrel
     clear HRow HBb
     have HR := Lib.hid hR
     have HB := Lib.hid hB
     have hlen : (dmgB (D.take i) (bs s)).length = s.size := by rw [dmgB_len, bs_len]
     clear hR hB
     by_cases h : i < D.length
     ·have hiI2 : (i : Int) < D.length := by omega
      obtain ⟨d, hdd⟩ : ∃ d, D[i]? = some d := ⟨_, List.getElem?_eq_getElem h⟩
      obtain ⟨_, _, e9, _, _, h3⟩ := HD.out.below (HBr.out.trans (HB.out.mono hbs))
      cases e9
      have hd5 : d < 65536 := HDb.out d (List.mem_of_getElem? hdd)
      have hd6 : (d : Int) < 65536 := by omega
      obtain ⟨b2, o2, u2, rfl, hcd, hu⟩ := h3 i d hdd
      obtain rfl : u2 = .int .u16 (d : Int) := hu
      clear h3
      obtain ⟨q, hq⟩ : ∃ q, d % s.size = q := ⟨_, rfl⟩
      have hqT : Int.tmod (d : Int) (s.size : Int) = (q : Int) := by rw [Int.tmod_eq_emod_of_nonneg (by omega), ← hq]; rfl
      have hqE : (d : Int) % (s.size : Int) = (q : Int) := by rw [← hq]; rfl
      have hqs : q < s.size := by rw [← hq]; exact Nat.mod_lt _ hs0
      have hne : (s.size : Int) ≠ 0 := by omega
      have hLq : (dmgB (D.take i) (bs s))[q]? = some ((dmgB (D.take i) (bs s))[q]'(by omega)) := List.getElem?_eq_getElem _
      have hcl := HR.out.cell q _ hLq
      have hfr := HR.out.free q (by omega)
      have HX : Hid (RowB (wr.setCell ⟨wo.heap.size, q, none⟩ (.int .u8 63)) wo.heap.size (dmgB (D.take (i + 1)) (bs s))) := Lib.hid (by
       rw [dmgB_snoc hdd, bs_len, hq]
       exact HR.out.set q 63)
      have HY := Lib.hid (HB.out.setCell (p := ⟨wo.heap.size, q, none⟩) (Nat.le_refl _) (.int .u8 63))
      clear hq hLq hdd
      go_wp2
      go_roundw
      case rel => exact ⟨i + 1, by omega, by go_num, HX.out, HY.out⟩
      case measure => simp [intOf]; omega
     ·obtain rfl : i = D.length := by omega
      have hiI2 : ¬ ((D.length : Nat) : Int) < (D.length : Int) := by omega
      rw [List.take_length] at HR hlen
      have hcs := run_toStr (HR.out.bytes (n := s.size) (c := cc) (by omega) hc1 hc2) (by omega)
      have Hox := Lib.hid (own_belowC Ho.out HB.out)
      have hcx := cell_below HB.out Hcell.out
      have hfx := own_free Hox.out 0
      go_wp2
      go_ret
      refine ⟨.slice (some ⟨g, 0, none⟩) m cap, rfl, ?_, (HBr.out.trans (HB.out.mono hbs)).setCell (p := ⟨g, 0, none⟩) hg _⟩
      have h9 := (Hox.out.stored 0 (.string (strB (dmgB D (bs s))))).1
      rw [dmgP_len, Hm.out]
      exact h9

theorem few_any (w : World) (A B : Option Addr) (n m c d : Nat) : Calls Tryz.prog 23 #[.slice A n c, .slice B m d] w fun e w' => e = .returned (.bool (decide (n ≤ 5 ∧ m ≤ 300))) ∧ w = w' := by
 by_cases h1 : n ≤ 5
 ·have i1 : (n : Int) ≤ 5 := by omega
  by_cases h2 : m ≤ 300
  ·have i2 : (m : Int) ≤ 300 := by omega
   rw [decide_eq_true ⟨h1, h2⟩]
   go_enter Tryz.func23, Tryz.ntmps23
   go_wp2
   go_ret
   exact ⟨rfl, rfl⟩
  ·have i2 : ¬ (m : Int) ≤ 300 := by omega
   rw [decide_eq_false fun h => h2 h.2]
   go_enter Tryz.func23, Tryz.ntmps23
   go_wp2
   go_ret
   exact ⟨rfl, rfl⟩
 ·have i1 : ¬ (n : Int) ≤ 5 := by omega
  rw [decide_eq_false fun h => h1 h.1]
  go_enter Tryz.func23, Tryz.ntmps23
  go_wp2
  go_ret
  exact ⟨rfl, rfl⟩
end Go.Proofs.YtnlnmfkmbpihhaaGreatDoor
