/-
 WALKS: the references' Check, Unreadable, ToBytes of the cells; Deinterleave.
 WALKS: the references' ToBytes of the cells; Extract of the inner code.
 WALKS: the reference's mod, Next, mismatch, check.
-/
import Derived.Test.YtnlnmfkmbpihhaaGreatDoorRfA
import Derived.Test.YtnlnmfkmbpihhaaGreatDoorFrD
import Derived.Test.YtnlnmfkmbpihhaaGreatDoorFrE
import Derived.Test.YtnlnmfkmbpihhaaGreatDoorVitA
import Derived.MapKept
import Derived.Laws.StructEq
namespace Go.Proofs.YtnlnmfkmbpihhaaGreatDoor
open Go.RowKit

theorem cells_take {s : ByteArray} {k : Nat} (hk : k < s.size) (h : ∀ j, j < k → cf (bs s) j = 48 ∨ cf (bs s) j = 49 ∨ cf (bs s) j = 63) (hx : cf (bs s) k = 48 ∨ cf (bs s) k = 49 ∨ cf (bs s) k = 63) :
  ∀ j, j < k + 1 → cf (bs s) j = 48 ∨ cf (bs s) j = 49 ∨ cf (bs s) j = 63 := fun j hj => by
 have _ := hk
 by_cases e : j = k
 ·rw [e]; exact hx
 ·exact h j (by omega)
theorem cells_all {l : List Nat} (h : ∀ j, j < l.length → cf l j = 48 ∨ cf l j = 49 ∨ cf l j = 63) : chkE l = 0 := by
 unfold chkE
 rw [if_pos (cellsOK_iff.2 fun c hc => ?_)]
 obtain ⟨j, hj, e⟩ := List.getElem_of_mem hc
 have := h j hj
 rwa [cf_get (List.getElem?_eq_getElem hj), e] at this
theorem cells_not {l : List Nat} {j : Nat} (hj : j < l.length) (h : ¬ (cf l j = 48 ∨ cf l j = 49 ∨ cf l j = 63)) : chkE l = 3 := by
 unfold chkE
 rw [if_neg fun hc => h ?_]
 rw [cf_get (List.getElem?_eq_getElem hj)]
 exact cellsOK_iff.1 hc _ (List.getElem_mem hj)

set_option maxRecDepth 100000 in
set_option maxHeartbeats 8000000 in
theorem rck1_any (w : World) (s : ByteArray) (hs : s.size ≤ 1000000) : Calls Tryz.prog 77 #[.string s] w fun e w' => e = .returned (.int .i64 (chkE (bs s))) ∧ w = w' := by
 obtain ⟨R, hR⟩ : ∃ R, chkE (bs s) = R := ⟨_, rfl⟩
 rw [hR]
 have HR := Lib.hid hR
 clear hR
 go_enter Tryz.func77, Tryz.ntmps77
 go_wp2
 go_loop [3] (fun x => ∃ k : Nat, k ≤ s.size ∧ x = .int .i64 (k : Int) ∧ ∀ j, j < k → cf (bs s) j = 48 ∨ cf (bs s) j = 49 ∨ cf (bs s) j = 63) (fun x => s.size - (intOf x).toNat)
 case atStart => exact ⟨0, by omega, rfl, fun j hj => by omega⟩
 case round =>
  obtain ⟨k, hk, rfl, hok⟩ := hrel
  have Hok := Lib.hid hok
  clear hok
  by_cases h : k < s.size
  ·have hkI : (k : Int) < s.size := by omega
   have HX := Lib.hid (bsc s k h)
   by_cases h48 : (s[k]'h).toNat = 48
   ·have e1 : (((s[k]'h).toNat : Int) != 48) = false := by rw [h48]; rfl
    have HN := Lib.hid (cells_take h Hok.out (by rw [HX.out, h48]; exact .inl rfl))
    go_wp2
    go_round
    case rel => exact ⟨k + 1, by omega, by go_num, HN.out⟩
    case measure => simp [intOf]; omega
   ·have e1 : (((s[k]'h).toNat : Int) != 48) = true := by simpa [bne_iff_ne] using fun e : ((s[k]'h).toNat : Int) = 48 => h48 (by omega)
    by_cases h49 : (s[k]'h).toNat = 49
    ·have e2 : (((s[k]'h).toNat : Int) != 49) = false := by rw [h49]; rfl
     have HN := Lib.hid (cells_take h Hok.out (by rw [HX.out, h49]; exact .inr (.inl rfl)))
     clear h48 h49
     go_wp2
     go_round
     case rel => exact ⟨k + 1, by omega, by go_num, HN.out⟩
     case measure => simp [intOf]; omega
    ·have e2 : (((s[k]'h).toNat : Int) != 49) = true := by simpa [bne_iff_ne] using fun e : ((s[k]'h).toNat : Int) = 49 => h49 (by omega)
     by_cases h63 : (s[k]'h).toNat = 63
     ·have e3 : (((s[k]'h).toNat : Int) != 63) = false := by rw [h63]; rfl
      have HN := Lib.hid (cells_take h Hok.out (by rw [HX.out, h63]; exact .inr (.inr rfl)))
      clear h48 h49 h63
      go_wp2
      go_round
      case rel => exact ⟨k + 1, by omega, by go_num, HN.out⟩
      case measure => simp [intOf]; omega
     ·have e3 : (((s[k]'h).toNat : Int) != 63) = true := by simpa [bne_iff_ne] using fun e : ((s[k]'h).toNat : Int) = 63 => h63 (by omega)
      have HE : Hid (R = 3) := Lib.hid (by rw [← HR.out]; exact cells_not (j := k) (by rw [bs_len]; exact h) (by rw [HX.out]; rintro (e | e | e); exact h48 e; exact h49 e; exact h63 e))
      clear h48 h49 h63
      go_wp2
      go_ret
      exact ⟨by rw [HE.out]; rfl, rfl⟩
  ·have hkI : ¬ (k : Int) < s.size := by omega
   have HE : Hid (R = 0) := Lib.hid (by rw [← HR.out]; exact cells_all fun j hj => Hok.out j (by rw [bs_len] at hj; omega))
   go_wp2
   go_ret
   exact ⟨by rw [HE.out]; rfl, rfl⟩

set_option maxRecDepth 100000 in
set_option maxHeartbeats 8000000 in
theorem runr1_any (w : World) (s : ByteArray) (hs : s.size ≤ 1000000) : Calls Tryz.prog 79 #[.string s] w fun e w' => e = .returned (.int .i64 ((bs s).count 63 : Nat)) ∧ w = w' := by
 go_enter Tryz.func79, Tryz.ntmps79
 go_wp2
 go_loop [3, 4] (fun y x => ∃ k : Nat, k ≤ s.size ∧ x = .int .i64 (k : Int) ∧ y = .int .i64 ((((bs s).take k).count 63 : Nat) : Int)) (fun _ x => s.size - (intOf x).toNat)
 case atStart => exact ⟨0, by omega, rfl, rfl⟩
 case round =>
  obtain ⟨k, hk, rfl, rfl⟩ := hrel
  by_cases h : k < s.size
  ·have hkI : (k : Int) < s.size := by omega
   have hc := List.count_le_length (a := 63) (l := (bs s).take k)
   rw [List.length_take] at hc
   have hc9 : ((bs s).take k).count 63 ≤ 1000000 := by omega
   have ht : ((bs s).take (k + 1)).count 63 = ((bs s).take k).count 63 + if (s[k]'h).toNat = 63 then 1 else 0 := by
    rw [take_snoc_cf (by rw [bs_len]; exact h), List.count_append, bsc s k h, List.count_cons, List.count_nil]
    simp
   have Ht := Lib.hid ht
   clear ht hc
   generalize ((bs s).take k).count 63 = c at *
   by_cases h63 : (s[k]'h).toNat = 63
   ·have e3 : (((s[k]'h).toNat : Int) == 63) = true := by rw [h63]; rfl
    go_wp2
    go_round
    case rel => exact ⟨k + 1, by omega, by go_num, by rw [Ht.out, if_pos h63]; go_num⟩
    case measure => simp [intOf]; omega
   ·have e3 : (((s[k]'h).toNat : Int) == 63) = false := by simpa using fun e : ((s[k]'h).toNat : Int) = 63 => h63 (by omega)
    go_wp2
    go_round
    case rel => exact ⟨k + 1, by omega, by go_num, by rw [Ht.out, if_neg h63]; rfl⟩
    case measure => simp [intOf]; omega
  ·have hkI : ¬ (k : Int) < s.size := by omega
   have ht : (bs s).take k = bs s := List.take_of_length_le (by rw [bs_len]; omega)
   go_wp2
   go_ret
   exact ⟨rfl, rfl⟩

/-! Deinterleave -/
def perR (l : List Nat) (k : Nat) : List Nat := (List.range 836).map fun i => if ilv i < k then cf l (ilv i) else 0
theorem perR_len (l : List Nat) (k : Nat) : (perR l k).length = 836 := by unfold perR; rw [List.length_map, List.length_range]
theorem perR_cf (l : List Nat) (k : Nat) {i : Nat} (h : i < 836) : cf (perR l k) i = if ilv i < k then cf l (ilv i) else 0 := by unfold perR; rw [cf_map, if_pos h]
theorem perR_set {l : List Nat} {k : Nat} (h : k < 836) : (perR l k).set (uil k) (cf l k) = perR l (k + 1) := by
 refine list_ext836 (by rw [List.length_set, perR_len]) (perR_len _ _) fun i hi => ?_
 rw [cf_set _ _ _ _ (by rw [perR_len]; exact (ilv_uil h).2), perR_cf l k hi, perR_cf l _ hi]
 by_cases e : uil k = i
 ·subst e
  rw [if_pos rfl, (ilv_uil h).1, if_pos (by omega)]
 ·rw [if_neg e]
  have hne : ilv i ≠ k := fun hu => e (by rw [← hu]; exact uil_ilv hi)
  by_cases h1 : ilv i < k
  ·rw [if_pos h1, if_pos (by omega)]
  ·rw [if_neg h1, if_neg (by omega)]
theorem perR_zero (l : List Nat) : perR l 0 = List.replicate 836 0 := by
 refine list_ext836 (perR_len _ _) List.length_replicate fun j hj => ?_
 rw [perR_cf l 0 hj, if_neg (by omega)]
 unfold cf
 rw [List.getElem?_replicate, if_pos hj]
 rfl
theorem perR_end (l : List Nat) : perR l 836 = deinL l := by
 unfold perR deinL
 refine List.map_congr_left fun j hj => ?_
 rw [if_pos (ilv_lt (List.mem_range.1 hj))]

set_option maxRecDepth 100000 in
set_option maxHeartbeats 8000000 in
theorem rdein_any (w : World) (s : ByteArray) (hs : s.size = 836) : Calls Tryz.prog 78 #[.string s, .int .i64 8] w fun e w' => e = .returned (.tuple #[.string (strB (deinL (bs s))), .int .i64 0]) ∧ Below w.heap.size w w' := by
 go_enter Tryz.func78, Tryz.ntmps78
 go_upto_region 4 with (go_at_call 135; refine (rorder_any _).mono ?_; rintro e w1 ⟨v1, rfl, hv1, hb1⟩)
 have Hv := Lib.hid hv1
 obtain ⟨A1, c1, rfl, k1, k2, k3⟩ := hv1
 rw [ordL_len] at k1
 have hmk := make_u8_836
 have hsI : (s.size : Int) = 836 := by omega
 have HK0 : Hid (U8B (w1.alloc (.cells (arrB (perD [] 0)) 5)) w1.heap.size (perR (bs s) 0)) := Lib.hid (by
  rw [perR_zero, ← perD_zero []]
  exact U8B.new w1 _)
 have HB0 := Lib.hid ((Below.refl w1.heap.size w1).alloc (Nat.le_refl _) (.cells (arrB (perD [] 0)) 5))
 have HB1 := Lib.hid hb1
 clear k3 hb1
 rw [ordL_len]
 go_wp2
 clear hmk
 go_loopw [8] (fun x wr => ∃ k : Nat, k ≤ 836 ∧ x = .int .i64 (k : Int) ∧ U8B wr w1.heap.size (perR (bs s) k) ∧ Below w1.heap.size w1 wr) (fun x _ => 836 - (intOf x).toNat)
 case atStart => exact ⟨0, by omega, rfl, HK0.out, HB0.out⟩
 case round =>
  obtain ⟨k, hk, rfl, hn, hB⟩ := hrel
  clear HK0 HB0
  have Hn := Lib.hid hn
  have HBr := Lib.hid hB
  clear hn hB
  by_cases h : k < 836
  ·have hkI : (k : Int) < 836 := by omega
   have hu := (ilv_uil h).2
   obtain ⟨b, o, rfl, hc⟩ := SlAt.cell (SlAt.keep Hv.out (fun _ _ => cell_below HBr.out) plainR_keep) (i := k) (x := uil k) (by unfold ordL; rw [List.getElem?_map, List.getElem?_range h]; rfl)
   have Hst := Lib.hid (perR_set (l := bs s) h)
   have hx : k < s.size := by omega
   have hxI : (k : Int) < s.size := by omega
   have hcx := bs_cf s k hx
   generalize uil k = u at *
   have huJ : (u : Int) < 836 := by omega
   have hc1 := U8B.cell Hn.out (i := u) (x := cf (perR (bs s) k) u) (by unfold cf; rw [List.getElem?_eq_getElem (by rw [perR_len]; exact hu)]; rfl)
   have hf1 := Blk.frozen Hn.out u
   have Hset : Hid (U8B (wr.setCell ⟨w1.heap.size, u, none⟩ (.int .u8 ((s[k]'hx).toNat : Nat))) w1.heap.size (perR (bs s) (k + 1))) := Lib.hid (by
    rw [← Hst.out, hcx]
    exact U8B.set Hn.out u _)
   have HBs := Lib.hid (HBr.out.setCell (p := ⟨w1.heap.size, u, none⟩) (Nat.le_refl _) (.int .u8 ((s[k]'hx).toNat : Nat)))
   clear hcx Hst Hn HBr
   go_wp2
   go_still_tail 9, (by kernel_rfl)
   go_wp2
   go_roundw
   case rel => exact ⟨k + 1, by omega, by go_num, U8B.drew Hset.out, HBs.out.drew⟩
   case measure => simp [intOf]; omega
  ·obtain rfl : k = 836 := by omega
   have hv := U8B.bytes Hn.out (n := 836) (c := 836) (by rw [perR_len]) (Nat.le_refl _) (by omega)
   rw [perR_end] at hv
   have hcs := run_toStr hv (deinL_len _).symm
   clear hv
   go_wp2
   go_ret2
   exact ⟨rfl, HB1.out.trans (HBr.out.mono HB1.out.size)⟩

end Go.Proofs.YtnlnmfkmbpihhaaGreatDoor

namespace Go.Proofs.YtnlnmfkmbpihhaaGreatDoor
open Go.RowKit

set_option maxRecDepth 100000 in
set_option maxHeartbeats 8000000 in
theorem rto1_any (w : World) (s : ByteArray) (hs : s.size = 416) (h01 : B01 (bs s)) : Calls Tryz.prog 82 #[.string s] w fun e w' => (∃ v, e = .returned (.tuple #[.string (strB (toB (bs s))), v, .int .i64 0])) ∧ Below w.heap.size w w' := by
 have e0 : chkE (bs s) = 0 := by unfold chkE; rw [cells_01 h01]; rfl
 have Hck := Lib.hid (fun W => rck1_any W s (by omega))
 rw [e0] at Hck
 have H01 := Lib.hid h01
 have hsI : (s.size : Int) = 416 := by omega
 have HK0 : Hid ((w.alloc (.cells #[] 5)).ownsRow w.heap.size 5 1 (.slice (some ⟨w.heap.size, 0, none⟩) 0 0) 0 (((List.range 0).map (byteOf (bs s))).map u8V)) := Lib.hid (own_empty w 5 1)
 have HK1 : Hid (((w.alloc (.cells #[] 5)).alloc (.cells #[] 3)).ownsRow w.heap.size 5 1 (.slice (some ⟨w.heap.size, 0, none⟩) 0 0) 0 (((List.range 0).map (byteOf (bs s))).map u8V)) := Lib.hid (World.ownsRow.alloc HK0.out _)
 have HB0 := Lib.hid (((Below.refl w.heap.size w).alloc (Nat.le_refl _) (.cells #[] 5)).alloc (by simp) (.cells #[] 3))
 have HT : Hid ((List.range 52).map (byteOf (bs s)) = toB (bs s)) := Lib.hid (by unfold toB; rw [bs_len, hs])
 clear h01 e0 HK0
 go_enter Tryz.func82, Tryz.ntmps82
 go_wp2_with (go_at_call 77; refine (Hck.out _).mono ?_; rintro e w' ⟨rfl, rfl⟩)
 go_loopw [5, 7] (fun v x wr => ∃ q i : Nat, i = 8 * q ∧ q ≤ 52 ∧ x = .int .i64 (i : Int) ∧ wr.ownsRow w.heap.size 5 1 v q (((List.range q).map (byteOf (bs s))).map u8V) ∧ Below w.heap.size w wr) (fun _ x _ => 416 - (intOf x).toNat)
 case atStart => exact ⟨0, 0, rfl, by omega, rfl, HK1.out, HB0.out⟩
 case round =>
  obtain ⟨q, i, hqi, hq, rfl, ho, hB⟩ := hrel
  obtain ⟨wo, rfl⟩ : ∃ x, x = wr := ⟨_, rfl⟩
  clear HK1 HB0
  have Ho := Lib.hid ho
  have HBr := Lib.hid hB
  have hBz := HBr.out.size
  have hq9 : q ≤ 900000 := by omega
  clear ho hB
  by_cases h : q < 52
  ·have hqI : (i : Int) < 416 := by omega
   have hi9 : i ≤ 408 := by omega
   have Hd := Lib.hid (show ∀ j, j < 8 → cf ((bs s).drop (8 * q)) j = cf (bs s) (i + j) from fun j _ => by unfold cf; rw [List.getElem?_drop, hqi])
   have Hpl := Lib.hid (pk_lt ((bs s).drop (8 * q)))
   have Hby : Hid ((List.range (q + 1)).map (byteOf (bs s)) = (List.range q).map (byteOf (bs s)) ++ [pk ((bs s).drop (8 * q)) 8]) := Lib.hid (by rw [List.range_succ, List.map_append]; rfl)
   have Hqi := Lib.hid hqi
   generalize hl : (bs s).drop (8 * q) = l at *
   clear hl hqi
   go_wp2
   go_loopw [8, 9, 10] (fun y o z wx => ∃ j n p : Nat, j ≤ 8 ∧ n = i + j ∧ p = pk l j ∧ z = .int .i64 (n : Int) ∧ o = .bool false ∧ y = .int .i64 (p : Int) ∧ wo = wx) (fun _ _ z _ => i + 8 - (intOf z).toNat)
   case atStart => exact ⟨0, i, 0, by omega, rfl, rfl, rfl, rfl, rfl, rfl⟩
   case round =>
    obtain ⟨j, n, p, hj, hn, hp, rfl, rfl, rfl, rfl⟩ := hrel
    by_cases h' : j < 8
    ·have hjI : (n : Int) < (i : Int) + 8 := by omega
     have hx : n < s.size := by omega
     have hxI : (n : Int) < 416 := by omega
     have hp9 : p < 256 := by rw [hp]; exact Nat.lt_of_lt_of_le (Hpl.out j) (Nat.pow_le_pow_right (by omega) (by omega : j ≤ 8))
     have hcx : cf l j = (s[n]'hx).toNat := by rw [Hd.out j h', ← hn]; exact bsc s _ hx
     have hst : pk l (j + 1) = 2 * pk l j + (if cf l j = 49 then 1 else 0) := rfl
     rw [hcx, ← hp] at hst
     have hv : (s[n]'hx).toNat = 48 ∨ (s[n]'hx).toNat = 49 := by
      rw [← bsc s _ hx]
      exact H01.out _ (by unfold cf; rw [List.getElem?_eq_getElem (by rw [bs_len]; exact hx)]; exact List.getElem_mem _)
     have Hst := Lib.hid hst
     have Hn := Lib.hid hn
     clear hst hcx hn hp
     rcases hv with hv | hv
     ·have e1 : (((s[n]'hx).toNat : Int) == 49) = false := by rw [hv]; rfl
      have e2 : (((s[n]'hx).toNat : Int) == 63) = false := by rw [hv]; rfl
      have HN : Hid (pk l (j + 1) = 2 * p) := Lib.hid (by rw [Hst.out, hv, if_neg (by decide)]; rfl)
      clear hv
      go_wp2
      go_roundw
      case rel => exact ⟨j + 1, n + 1, 2 * p, by omega, by have := Hn.out; omega, HN.out.symm, by go_num, rfl, by go_num, trivial⟩
      case measure => simp [intOf]; omega
     ·have e1 : (((s[n]'hx).toNat : Int) == 49) = true := by rw [hv]; rfl
      have e2 : (((s[n]'hx).toNat : Int) == 63) = false := by rw [hv]; rfl
      have HN : Hid (pk l (j + 1) = 2 * p + 1) := Lib.hid (by rw [Hst.out, hv, if_pos rfl])
      clear hv
      go_wp2
      go_roundw
      case rel => exact ⟨j + 1, n + 1, 2 * p + 1, by omega, by have := Hn.out; omega, HN.out.symm, by go_num, rfl, by go_num, trivial⟩
      case measure => simp [intOf]; omega
    ·obtain rfl : j = 8 := by omega
     have hjI : ¬ (n : Int) < (i : Int) + 8 := by omega
     have hp9 : p < 256 := by rw [hp]; exact Hpl.out 8
     rw [← hp] at Hby
     have hp2 : (p : Int) % 256 = (p : Int) := by omega
     clear hp hn
     go_wp2_with (at_builtin; refine wpList_app1 rfl _ _ rfl rfl rfl Ho.out hq9 hBz ?_; intro v1 w1 ho1 hb1)
     go_roundw
     case rel =>
      refine ⟨q + 1, i + 8, by have := Hqi.out; omega, by omega, by go_num, ?_, HBr.out.trans hb1⟩
      rw [Hby.out]
      exact ho1
     case measure => simp [intOf]; omega
  ·obtain rfl : q = 52 := by omega
   have ho := Ho.out
   rw [HT.out] at ho
   have hv := BytesAt.of_own ho
   have hl : (toB (bs s)).length = 52 := by rw [← HT.out, List.length_map, List.length_range]
   obtain ⟨A, c, rfl, j1, j2, j3⟩ := BytesAt.of_own ho
   have hcs := run_toStr hv rfl
   clear j3
   rw [hl] at hcs ⊢
   clear hv ho
   go_wp2
   refine bodyPost_ret (v := ?_) (by simp [results, Tryz.results82, go_sem]; rfl) rfl ⟨⟨_, rfl⟩, HBr.out⟩

theorem own_slice {w : World} {B : Nat} {t : TypeId} {v : Value} {n : Nat} {xs : List Value} (h : w.ownsRow B t 1 v n xs) (hn : 0 < n) : ∃ g cap, v = .slice (some ⟨g, 0, none⟩) n cap ∧ B ≤ g ∧ n ≤ cap := by
 obtain ⟨_, ⟨_, h0⟩ | ⟨g, cap, cur, e, hg, _, hc, _⟩⟩ := h
 ·omega
 ·exact ⟨g, cap, e, hg, hc⟩
theorem beq_bytes {C s : ByteArray} (h : (C == s) = true) : C = s := (Go.MapKept.bytes_beq C s).1 h
/-! Extract -/
def ebL (l : List Nat) : Nat → List Nat
 | 0 => [0, 0]
 | k + 1 => ebL l k ++ [(cf l (2 * k + 1) - 48 + cf (ebL l k) k) % 2]
theorem ebL_len (l : List Nat) : ∀ k, (ebL l k).length = k + 2
 | 0 => rfl
 | k + 1 => by unfold ebL; rw [List.length_append, ebL_len l k]; rfl
theorem ebL_bits (l : List Nat) : ∀ k, Bits (ebL l k)
 | 0 => by intro x hx; simp [ebL] at hx; omega
 | k + 1 => fun x hx => by
  unfold ebL at hx
  rcases List.mem_append.1 hx with hx | hx
  ·exact ebL_bits l k x hx
  ·rw [List.mem_singleton.1 hx]
   omega
/-- The bits that a word shows. -/
def ebU (l : List Nat) : List Nat := ((ebL l 418).drop 2).take 416
theorem ebU_len (l : List Nat) : (ebU l).length = 416 := by unfold ebU; rw [List.length_take, List.length_drop, ebL_len]; rfl
theorem ebU_bits (l : List Nat) : Bits (ebU l) := fun x hx => ebL_bits l 418 x (List.mem_of_mem_drop (List.mem_of_mem_take hx))
theorem ebU_cf (l : List Nat) {i : Nat} (hi : i < 416) : cf (ebU l) i = cf (ebL l 418) (2 + i) := by
 unfold ebU cf
 rw [List.getElem?_take, if_pos hi, List.getElem?_drop]
theorem cf_cenc {f : List Nat} (h : Bits f) {k : Nat} (hk : k < f.length) : cf (cenc 0 f) (2 * k + 1) = 48 + (preB f (k + 2) + preB f k) % 2 := by
 have e : cenc 0 f = cenc 0 (f.take (k + 1)) ++ cenc (cst 0 (f.take (k + 1))) (f.drop (k + 1)) := by rw [← cenc_append, List.take_append_drop]
 have hl : (cenc 0 (f.take k)).length = 2 * k := by rw [cenc_len, List.length_take]; omega
 rw [e, cenc_pre h hk]
 unfold cf
 rw [List.getElem?_append_left (by rw [List.length_append, hl]; simp), List.getElem?_append_right (by omega), hl, show 2 * k + 1 - 2 * k = 1 by omega]
 rfl
theorem ebL_enc {f : List Nat} (h : Bits f) : ∀ k, k ≤ f.length → ebL (cenc 0 f) k = 0 :: 0 :: f.take k
 | 0, _ => rfl
 | k + 1, hk => by
  have ih := ebL_enc h k (by omega)
  have e1 : cf (0 :: 0 :: f.take k) k = preB f k := by
   unfold preB
   show cf ((0 :: 0 :: f).take (k + 2)) k = _
   unfold cf
   rw [List.getElem?_take, if_pos (by omega)]
  have e2 : preB f (k + 2) = cf f k := rfl
  have h1 := preB_lt h k
  have h2 := preB_lt h (k + 2)
  unfold ebL
  rw [ih, e1, cf_cenc h (by omega), take_snoc_cf (by omega), ← e2, show (48 + (preB f (k + 2) + preB f k) % 2 - 48 + preB f k) % 2 = preB f (k + 2) by omega]
  rfl
theorem extP_enc {u : List Nat} (h : Bits u) : extP (convE u) = some u := by
 have hb : Bits (u ++ [0, 0]) := fun x hx => by
  rcases List.mem_append.1 hx with hx | hx
  ·exact h x hx
  ·simp at hx; omega
 have h63 : ¬ (convE u).contains 63 = true := by
  rw [List.contains_iff_mem]
  intro h
  rcases cenc_01 _ _ _ h with h | h <;> cases h
 unfold extP
 rw [if_neg h63, show cext 0 (convE u) = some (u ++ [0, 0]) from cext_enc _ 0 hb]
 dsimp only
 rw [List.length_append, show u.length + [0, 0].length - 2 = u.length from rfl, List.drop_left, List.take_left, if_pos rfl]
theorem extP_conv {l u : List Nat} (h : extP l = some u) : Bits u ∧ convE u = l := by
 unfold extP at h
 split at h
 ·cases h
 ·split at h
  ·cases h
  ·next v hv =>
   split at h
   ·next h0 =>
    cases h
    obtain ⟨h1, h2⟩ := cext_some _ _ hv
    refine ⟨fun x hx => h1 x (List.mem_of_mem_take hx), ?_⟩
    unfold convE
    rw [← h0, List.take_append_drop, h2]
   ·cases h
theorem ext_yes {l : List Nat} (h : convE (ebU l) = l) : extP l = some (ebU l) := by
 have := extP_enc (ebU_bits l)
 rwa [h] at this
theorem ext_no {l : List Nat} (hl : l.length = 836) (h : convE (ebU l) ≠ l) : extP l = none := by
 cases he : extP l with
 | none => rfl
 | some v =>
  exfalso
  obtain ⟨hb, hc⟩ := extP_conv he
  obtain ⟨hv, _⟩ := extP_some hl he
  have hb2 : Bits (v ++ [0, 0]) := fun x hx => by
   rcases List.mem_append.1 hx with hx | hx
   ·exact hb x hx
   ·simp at hx; omega
  have e : ebL l 418 = 0 :: 0 :: (v ++ [0, 0]) := by
   rw [← hc]
   have := ebL_enc hb2 418 (by rw [List.length_append, hv]; decide)
   unfold convE
   rw [this, List.take_of_length_le (by rw [List.length_append, hv]; decide)]
  apply h
  have e2 : ebU l = v := by
   unfold ebU
   rw [e]
   show ((v ++ [0, 0]).take 416) = v
   rw [← hv, List.take_left]
  rw [e2, hc]
theorem ext_63 {l : List Nat} {i : Nat} (hi : i < l.length) (h : cf l i = 63) : extP l = none := by
 unfold extP
 rw [if_pos]
 rw [List.contains_iff_mem, ← h, cf_get (List.getElem?_eq_getElem hi)]
 exact List.getElem_mem hi

set_option maxRecDepth 100000 in
set_option maxHeartbeats 8000000 in
theorem rext_any (w : World) (s : ByteArray) (hs : s.size = 836) (hok : cellsOK (bs s) = true) : Calls Tryz.prog 80 #[.string s] w fun e w' => e = .returned (extR (bs s)) ∧ Below w.heap.size w w' := by
 have e0 : chkE (bs s) = 0 := by unfold chkE; rw [hok]; rfl
 have Hck := Lib.hid (fun W => rck1_any W s (by omega))
 rw [e0] at Hck
 have Hcell := Lib.hid (show ∀ i (h : i < s.size), (s[i]'h).toNat = 48 ∨ (s[i]'h).toNat = 49 ∨ (s[i]'h).toNat = 63 from fun i h => by
  rw [← bsc s i h, cf_get (List.getElem?_eq_getElem (by rw [bs_len]; exact h))]
  exact cellsOK_iff.1 hok _ (List.getElem_mem _))
 have hl : (bs s).length = 836 := by rw [bs_len, hs]
 have HL := Lib.hid hl
 have hsI : (s.size : Int) = 836 := by omega
 have HK0 : Hid ((w.alloc (.cells #[.int .u8 0, .int .u8 0] 5)).ownsRow w.heap.size 5 1 (.slice (some ⟨w.heap.size, 0, none⟩) 2 2) (0 + 2) ((ebL (bs s) 0).map u8V)) := Lib.hid (World.ownsRow_lit (base := w.heap.size) (e := 5) (size := 1) w #[.int .u8 0, .int .u8 0] 2 (Nat.le_refl _) (by decide) rfl)
 have HB0 := Lib.hid ((Below.refl w.heap.size w).alloc (Nat.le_refl _) (.cells #[.int .u8 0, .int .u8 0] 5))
 have Hel := Lib.hid (ebL_len (bs s))
 have Heb := Lib.hid (ebL_bits (bs s))
 obtain ⟨R, hR⟩ : ∃ R, extR (bs s) = R := ⟨_, rfl⟩
 rw [hR]
 have HR := Lib.hid hR
 clear e0 hok hl hR
 go_enter Tryz.func80, Tryz.ntmps80
 go_wp2_with (go_at_call 77; refine (Hck.out _).mono ?_; rintro e w' ⟨rfl, rfl⟩)
 go_loopw [4, 5] (fun v x wr => ∃ k i n : Nat, i = 2 * k + 1 ∧ n = k + 2 ∧ k ≤ 418 ∧ x = .int .i64 (i : Int) ∧ wr.ownsRow w.heap.size 5 1 v n ((ebL (bs s) k).map u8V) ∧ Below w.heap.size w wr) (fun _ x _ => 838 - (intOf x).toNat)
 case atStart => exact ⟨0, 1, 2, rfl, rfl, by omega, rfl, HK0.out, HB0.out⟩
 case round =>
  obtain ⟨k, i, n, hik, hnk, hk, rfl, ho, hB⟩ := hrel
  clear HK0 HB0
  have Ho := Lib.hid ho
  have HBr := Lib.hid hB
  have Hik := Lib.hid hik
  have Hnk := Lib.hid hnk
  have hn9 : n ≤ 900000 := by omega
  have hn2 : 2 ≤ n := by omega
  have hi9 : i ≤ 1000 := by omega
  clear ho hB hnk
  by_cases h : k < 418
  ·have hiI : (i : Int) < 836 := by omega
   have hx : i < s.size := by omega
   have hcx := bsc s i hx
   by_cases h63 : (s[i]'hx).toNat = 63
   ·have e1 : (((s[i]'hx).toNat : Int) == 63) = true := by rw [h63]; rfl
    have HE : Hid (R = .tuple #[.string ⟨#[]⟩, .int .i64 11]) := Lib.hid (by rw [← HR.out]; unfold extR; rw [ext_63 (i := i) (by rw [bs_len]; exact hx) (by rw [hcx, h63])])
    clear h63 hcx hik
    go_wp2
    go_ret2
    exact ⟨by rw [HE.out]; rfl, HBr.out⟩
   ·have e1 : (((s[i]'hx).toNat : Int) == 63) = false := by simpa using fun e : ((s[i]'hx).toNat : Int) = 63 => h63 (by omega)
    have hv := Hcell.out i hx
    have hlen := Hel.out k
    obtain ⟨g, cap, rfl, hg, hcap⟩ := own_slice Ho.out (by omega)
    have hc := Ho.out.cellAt k (by have := Hnk.out; omega)
    rw [List.getElem?_map, List.getElem?_eq_getElem (by omega)] at hc
    simp only [Option.map_some] at hc
    have hb2 : (ebL (bs s) k)[k]'(by omega) < 2 := Heb.out k _ (List.getElem_mem _)
    have hst : ebL (bs s) (k + 1) = ebL (bs s) k ++ [(cf (bs s) (2 * k + 1) - 48 + cf (ebL (bs s) k) k) % 2] := rfl
    rw [← hik, hcx, cf_get (List.getElem?_eq_getElem (by omega : k < (ebL (bs s) k).length))] at hst
    have Hst := Lib.hid hst
    have hsub : (n : Int) - 2 = (k : Int) := by have := Hnk.out; omega
    have hs1 : IntKind.i64.wrap (k : Int) = (k : Int) := IntWalk.i64_in _ (by omega)
    have hs4 : (k : Int) < n := by omega
    have hs5 : k < n := by omega
    have u0 : IntKind.u8.wrap 0 = 0 := by decide
    have u1 : IntKind.u8.wrap 1 = 1 := by decide
    have hBz := HBr.out.size
    have Hod : Hid (wr.drew.ownsRow w.heap.size 5 1 (.slice (some ⟨g, 0, none⟩) n cap) n ((ebL (bs s) k).map u8V)) := Lib.hid Ho.out
    generalize (ebL (bs s) k)[k]'(by omega) = y at *
    have hcd : wr.drew.cell? ⟨g, k, none⟩ = some (u8V y) := hc
    have hx2 : (s[i]'hx).toNat = 48 ∨ (s[i]'hx).toNat = 49 := by omega
    have x00 : bits .xor .u8 0 0 = 0 := by decide
    have x01 : bits .xor .u8 0 1 = 1 := by decide
    have x10 : bits .xor .u8 1 0 = 1 := by decide
    have x11 : bits .xor .u8 1 1 = 0 := by decide
    clear hst hcx hik hlen h63 hv
    obtain ⟨x, hxe⟩ : ∃ x, (s[i]'hx).toNat = x := ⟨_, rfl⟩
    rw [hxe] at hx2 Hst
    have hsb : IntKind.u8.wrap (((s[i]'hx).toNat : Int) - 48) = ((x - 48 : Nat) : Int) := by
     rw [hxe]
     rcases hx2 with rfl | rfl <;> decide
    obtain ⟨b, hbe⟩ : ∃ b, (x - 48 + y) % 2 = b := ⟨_, rfl⟩
    rw [hbe] at Hst
    have hxr : bits .xor .u8 ((x - 48 : Nat) : Int) (y : Int) = (b : Int) := by
     rw [← hbe]
     rcases hx2 with rfl | rfl <;> rcases (by omega : y = 0 ∨ y = 1) with rfl | rfl <;> decide
    generalize x - 48 = z at *
    clear hx2 hb2 hbe hxe x00 x01 x10 x11 u0 u1
    go_wp2
    refine wp_region_held_drew (S := (fun _ => True)) (by kernel_rfl) ?_ (fun hHeld => ?_)
    ·exact trivial
    refine tk 0 ?_
    refine tk 1 ?_
    refine tk 2 ?_
    refine tk 3 ?_
    refine tk 4 ?_
    refine tk 5 ?_
    refine tk 6 ?_
    refine tk 7 ?_
    refine tk 8 ?_
    refine tk 9 ?_
    refine wpAnyH_ready (rs := [10]) (by kernel_rfl) (by simp) ?_
    refine AllReadyH.cons (o := _) rfl (fun K hK => ?_) ?_
    ·go_simp
     refine hko hK (by exact trivial) (fun _ => ?_)
     clear hK K
     refine tk 11 ?_
     refine wpAnyH_ready (rs := [12]) (by kernel_rfl) (by simp) ?_
     refine AllReadyH.cons (o := _) rfl (fun K hK => ?_) ?_
     ·go_simp
      refine hko hK (by exact trivial) (fun _ => ?_)
      clear hK K
      refine wpAnyH_ready (rs := [13]) (by kernel_rfl) (by simp) ?_
      refine AllReadyH.cons (o := _) rfl (fun K hK => ?_) ?_
      ·refine step_app1 (W := wr.drew) rfl _ _ rfl rfl rfl Hod.out hn9 hBz ?_
       intro v1 w1 ho1 hb1
       refine hko hK (by exact trivial) (fun _ => ?_)
       clear hK K
       refine tk 14 ?_
       refine wpAnyH_done (by kernel_rfl) ?_ _
       go_wp2_with fail
       go_roundw
       case rel =>
        refine ⟨k + 1, i + 2, n + 1, by have := Hik.out; omega, by have := Hnk.out; omega, by omega, by go_num, ?_, HBr.out.drew.trans hb1⟩
        rw [Hst.out]
        exact ho1
       case measure => simp [intOf]; omega
      exact AllReadyH.nil
     exact AllReadyH.nil
    exact AllReadyH.nil
  ·obtain rfl : k = 418 := by omega
   obtain ⟨wo, rfl⟩ : ∃ x, x = wr := ⟨_, rfl⟩
   have hiI : ¬ (i : Int) < 836 := by omega
   have hn420 : n = 420 := by have := Hnk.out; omega
   subst hn420
   obtain ⟨g, cap, rfl, hg, hcap⟩ := own_slice Ho.out (by omega)
   have HU : Hid (∀ j, j < 416 → cf (ebL (bs s) 418) (j + 2) = cf (ebU (bs s)) j) := Lib.hid (fun j hj => by rw [ebU_cf _ hj, Nat.add_comm])
   have Hul := Lib.hid (ebU_len (bs s))
   have Hub := Lib.hid (ebU_bits (bs s))
   have He : Hid (∀ u, ebU (bs s) = u → (convE u = bs s → R = .tuple #[.string (strB (bitsS u)), .int .i64 0]) ∧ (convE u ≠ bs s → R = .tuple #[.string ⟨#[]⟩, .int .i64 11])) := Lib.hid (fun u hu => by
    rw [← hu, ← HR.out]
    unfold extR
    exact ⟨fun h => by rw [ext_yes h], fun h => by rw [ext_no HL.out h]⟩)
   have hlen := Hel.out 418
   obtain ⟨l, hle⟩ : ∃ l, ebL (bs s) 418 = l := ⟨_, rfl⟩
   rw [hle] at hlen HU Ho
   obtain ⟨u, hu⟩ : ∃ u, ebU (bs s) = u := ⟨_, rfl⟩
   rw [hu] at HU Hul Hub
   have He2 := Lib.hid (He.out u hu)
   have Hll := Lib.hid hlen
   clear He hu hle hik Hik Hnk Hel Heb HR HL hn9 hn2 hi9 hlen Hck
   go_wp2
   go_loopw [6, 7] (fun b x wx => ∃ j m : Nat, j ≤ 416 ∧ m = j + 2 ∧ x = .int .i64 (m : Int) ∧ b = .string (strB (bitsS (u.take j))) ∧ Below wo.heap.size wo wx) (fun _ x _ => 418 - (intOf x).toNat)
   case atStart => exact ⟨0, 2, by omega, rfl, rfl, rfl, Below.refl _ _⟩
   case round =>
    obtain ⟨j, m, hj, hm, rfl, rfl, hb⟩ := hrel
    have Hb := Lib.hid hb
    clear hb
    by_cases h' : j < 416
    ·have hmI : (m : Int) < 418 := by omega
     have hm420 : (m : Int) < 420 := by omega
     have hm420N : m < 420 := by omega
     have hc := (own_kept Ho.out Hb.out).cellAt m hm420N
     rw [List.getElem?_map, List.getElem?_eq_getElem (by rw [Hll.out]; omega)] at hc
     simp only [Option.map_some] at hc
     have hlj : l[m]'(by rw [Hll.out]; omega) = cf u j := by rw [← HU.out j h', ← hm, cf_get (List.getElem?_eq_getElem (by rw [Hll.out]; omega))]
     have hu2 : cf u j < 2 := by rw [cf_get (List.getElem?_eq_getElem (by rw [Hul.out]; omega))]; exact Hub.out _ (List.getElem_mem _)
     rw [hlj] at hc
     have hts := take_snoc_cf (f := u) (j := j) (by rw [Hul.out]; exact h')
     have hbb : bitsS (u.take (j + 1)) = bitsS (u.take j) ++ [48 + cf u j] := by rw [hts]; unfold bitsS; rw [List.map_append]; rfl
     have Hbb := Lib.hid hbb
     have hsz : (strB (bitsS (u.take j))).size = j := by rw [strB_size, bitsS_len, List.length_take, Hul.out]; omega
     have Hm := Lib.hid hm
     clear hlj hts hbb hm
     generalize bitsS (u.take j) = P at *
     generalize cf u j = y at *
     rcases (by omega : y = 0 ∨ y = 1) with rfl | rfl
     ·have HC : Hid (strB P ++ strB [48] = strB (bitsS (u.take (j + 1)))) := Lib.hid (by rw [strB_cat, Hbb.out])
      have hcs : (convert 100 9 (.slice (some ⟨wr.heap.size, 0, none⟩) 1 1)).run Tryz.prog (wr.alloc (.cells #[.int .u8 48] 5)) = .ok (.string (strB [48])) (wr.alloc (.cells #[.int .u8 48] 5)) := run_toStr (BytesAt.one wr 48) rfl
      have h1 : (strB [48]).size = 1 := rfl
      generalize strB P = S0 at *
      generalize strB [48] = S1 at *
      go_wp2
      go_roundw
      case rel => exact ⟨j + 1, m + 1, by omega, by have := Hm.out; omega, by go_num, by rw [← HC.out], Hb.out.alloc Hb.out.size _⟩
      case measure => simp [intOf]; omega
     ·have HC : Hid (strB P ++ strB [49] = strB (bitsS (u.take (j + 1)))) := Lib.hid (by rw [strB_cat, Hbb.out])
      have hcs : (convert 100 9 (.slice (some ⟨wr.heap.size, 0, none⟩) 1 1)).run Tryz.prog (wr.alloc (.cells #[.int .u8 49] 5)) = .ok (.string (strB [49])) (wr.alloc (.cells #[.int .u8 49] 5)) := run_toStr (BytesAt.one wr 49) rfl
      have h1 : (strB [49]).size = 1 := rfl
      generalize strB P = S0 at *
      generalize strB [49] = S1 at *
      go_wp2
      go_roundw
      case rel => exact ⟨j + 1, m + 1, by omega, by have := Hm.out; omega, by go_num, by rw [← HC.out], Hb.out.alloc Hb.out.size _⟩
      case measure => simp [intOf]; omega
    ·obtain rfl : j = 416 := by omega
     have hmI : ¬ (m : Int) < 418 := by omega
     have hta : u.take 416 = u := List.take_of_length_le (by rw [Hul.out]; exact Nat.le_refl _)
     have HB9 := Lib.hid (HBr.out.trans (Hb.out.mono HBr.out.size))
     rw [hta]
     have HE := Lib.hid (fun W => rcenc_any W (strB (bitsS u)) u (bs_strB (bitsS_bytes Hub.out)) Hub.out (by rw [Hul.out]; omega))
     clear hta HBr Hb
     obtain ⟨S, hS⟩ : ∃ S, strB (bitsS u) = S := ⟨_, rfl⟩
     rw [hS] at HE He2 ⊢
     obtain ⟨C, hC⟩ : ∃ C, strB (cenc 0 (u ++ [0, 0])) = C := ⟨_, rfl⟩
     rw [hC] at HE
     have hcb : Bytes (convE u) := fun x hx => by rcases cenc_01 _ _ _ hx with h | h <;> omega
     have hCb : bs C = convE u := by rw [← hC]; exact bs_strB hcb
     by_cases he : convE u = bs s
     ·have hCs : C = s := bs_inj (by rw [hCb, he])
      have HRv := Lib.hid (He2.out.1 he)
      clear hC hcb hCb he He2
      subst hCs
      go_wp2_with (go_at_call 71; refine (HE.out _).mono ?_; rintro e w2 ⟨rfl, hb2⟩)
      go_ret2
      exact ⟨by rw [HRv.out]; rfl, HB9.out.trans (hb2.mono HB9.out.size)⟩
     ·have hne : (C.toList == s.toList) = false := by
       rw [← beq_toListBytes]
       cases hq : (C == s) with
       | false => rfl
       | true => exact absurd (beq_bytes hq) (fun e => he (by rw [← hCb, e]))
      have HRv := Lib.hid (He2.out.2 he)
      clear hC hcb hCb he He2
      go_wp2_with (go_at_call 71; refine (HE.out _).mono ?_; rintro e w2 ⟨rfl, hb2⟩)
      go_ret2
      exact ⟨by rw [HRv.out]; rfl, HB9.out.trans (hb2.mono HB9.out.size)⟩

end Go.Proofs.YtnlnmfkmbpihhaaGreatDoor

namespace Go.Proofs.YtnlnmfkmbpihhaaGreatDoor
open Go.RowKit

theorem rmod_any (w : World) (n m : Nat) (h : n < m) (hm : m ≤ 1000) : Calls Tryz.prog 203 #[.int .i64 (n : Int), .int .i64 (m : Int)] w fun e w' => e = .returned (.int .i64 (n : Int)) ∧ w = w' := by
 have hr : Int.tmod (n : Int) (m : Int) = n := by rw [Int.tmod_eq_emod_of_nonneg (by omega), Int.emod_eq_of_lt (by omega) (by omega)]
 have hz : ¬ ((m : Int) = 0) := by omega
 have hmJ : (m : Int) ≤ 1000 := by omega
 go_enter Tryz.func203, Tryz.ntmps203
 go_wp2
 go_ret
 exact ⟨rfl, rfl⟩

theorem two_str (W : World) (x y : Nat) : (convert 100 9 (.slice (some ⟨W.heap.size, 0, none⟩) 2 2)).run Tryz.prog (W.alloc (.cells #[.int .u8 (x : Int), .int .u8 (y : Int)] 5)) = .ok (.string (strB [x, y])) (W.alloc (.cells #[.int .u8 (x : Int), .int .u8 (y : Int)] 5)) :=
 run_toStr (U8B.bytes (U8B.new W [x, y]) rfl (Nat.le_refl _) (by omega)) rfl

theorem two_strG (W : World) (x y : Nat) (e1 e2 : Int) (h1 : e1 = (x : Int)) (h2 : e2 = (y : Int)) : (convert 100 9 (.slice (some ⟨W.heap.size, 0, none⟩) 2 2)).run Tryz.prog ((W.alloc (.cells #[.int .u8 e1, .int .u8 e2] 5)).drew) = .ok (.string (strB [x, y])) ((W.alloc (.cells #[.int .u8 e1, .int .u8 e2] 5)).drew) := by
 subst h1 h2
 exact run_toStr (W := (W.alloc (.cells #[.int .u8 (x : Int), .int .u8 (y : Int)] 5)).drew) (SlAt.keep (U8B.bytes (U8B.new W [x, y]) (n := 2) (c := 2) rfl (Nat.le_refl _) (by omega)) (fun _ _ h => h) plainR_keep) rfl

theorem next_co1 {s b s1 s2 : Nat} (h : s = 2 * s1 + s2) (h1 : s1 < 2) (h2 : s2 < 2) (hb : b < 2) : IntKind.u8.wrap (48 + IntKind.u8.wrap (Int.tmod (IntKind.i64.wrap (IntKind.i64.wrap ((b : Int) + s1) + s2)) 2)) = ((co1 s b : Nat) : Int) := by
 subst h
 rcases (by omega : s1 = 0 ∨ s1 = 1) with rfl | rfl <;> rcases (by omega : s2 = 0 ∨ s2 = 1) with rfl | rfl <;> rcases (by omega : b = 0 ∨ b = 1) with rfl | rfl <;> decide
theorem next_co2 {s b s1 s2 : Nat} (h : s = 2 * s1 + s2) (h1 : s1 < 2) (h2 : s2 < 2) (hb : b < 2) : IntKind.u8.wrap (48 + IntKind.u8.wrap (Int.tmod (IntKind.i64.wrap ((b : Int) + s2)) 2)) = ((co2 s b : Nat) : Int) := by
 subst h
 rcases (by omega : s1 = 0 ∨ s1 = 1) with rfl | rfl <;> rcases (by omega : s2 = 0 ∨ s2 = 1) with rfl | rfl <;> rcases (by omega : b = 0 ∨ b = 1) with rfl | rfl <;> decide
theorem next_cnx {s b s1 s2 : Nat} (h : s = 2 * s1 + s2) (h1 : s1 < 2) (h2 : s2 < 2) (hb : b < 2) : IntKind.i64.wrap (IntKind.i64.wrap (2 * (b : Int)) + s1) = ((cnx s b : Nat) : Int) := by
 subst h
 rcases (by omega : s1 = 0 ∨ s1 = 1) with rfl | rfl <;> rcases (by omega : s2 = 0 ∨ s2 = 1) with rfl | rfl <;> rcases (by omega : b = 0 ∨ b = 1) with rfl | rfl <;> decide

set_option maxRecDepth 100000 in
set_option maxHeartbeats 8000000 in
theorem rnext_any (w : World) (s b : Nat) (hs : s < 4) (hb : b < 2) : Calls Tryz.prog 140 #[.int .i64 (s : Int), .int .i64 (b : Int)] w fun e w' => e = .returned (.tuple #[.int .i64 (cnx s b : Nat), .string (outS s b)]) ∧ Below w.heap.size w w' := by
 have H1 := Lib.hid (fun W => rmod_any W s 4 hs (by omega))
 have H2 := Lib.hid (fun W => rmod_any W b 2 hb (by omega))
 have Hcs := Lib.hid (two_strG w (co1 s b) (co2 s b))
 show Calls Tryz.prog 140 _ w fun e w' => e = .returned (.tuple #[.int .i64 (cnx s b : Nat), .string (strB [co1 s b, co2 s b])]) ∧ Below w.heap.size w w'
 generalize strB [co1 s b, co2 s b] = S at *
 obtain ⟨s1, h1⟩ : ∃ s1, s / 2 = s1 := ⟨_, rfl⟩
 obtain ⟨s2, h2⟩ : ∃ s2, s % 2 = s2 := ⟨_, rfl⟩
 have hd : Int.tdiv (s : Int) 2 = (s1 : Int) := by rw [Int.tdiv_eq_ediv_of_nonneg (by omega)]; omega
 have hm : Int.tmod (s : Int) 2 = (s2 : Int) := by rw [Int.tmod_eq_emod_of_nonneg (by omega)]; omega
 have hE1 := next_co1 (s := s) (b := b) (s1 := s1) (s2 := s2) (by omega) (by omega) (by omega) hb
 have hE2 := next_co2 (s := s) (b := b) (s1 := s1) (s2 := s2) (by omega) (by omega) (by omega) hb
 have HC := Lib.hid (next_cnx (s := s) (b := b) (s1 := s1) (s2 := s2) (by omega) (by omega) (by omega) hb)
 have HE1 := Lib.hid hE1
 have HE2 := Lib.hid hE2
 have hb1 : (s1 : Int) ≤ 1 := by omega
 clear hE1 hE2 h1 h2
 go_enter Tryz.func140, Tryz.ntmps140
 go_wp2_with fail
 refine (H1.out _).mono ?_
 rintro e w1 ⟨rfl, rfl⟩
 go_wp2_with fail
 refine (H2.out _).mono ?_
 rintro e w1 ⟨rfl, rfl⟩
 go_wp2_with fail
 clear hd hm hs hb hb1 H1 H2
 refine wp_region_held_drew (S := (fun _ => True)) (by kernel_rfl) ?_ (fun hHeld => ?_)
 ·exact trivial
 refine tk 0 ?_
 refine tk 1 ?_
 refine tk 2 ?_
 refine tk 3 ?_
 refine tk 4 ?_
 refine tk 5 ?_
 refine tk 6 ?_
 refine tk 7 ?_
 refine tk 8 ?_
 refine tk 9 ?_
 refine tk 10 ?_
 refine tk 11 ?_
 refine tk 12 ?_
 refine tk 13 ?_
 refine tk 14 ?_
 refine tk 15 ?_
 refine tk 16 ?_
 refine tk 17 ?_
 refine tk 20 ?_
 refine wpAnyH_ready (rs := [18]) (by kernel_rfl) (by simp) ?_
 refine AllReadyH.cons (o := _) rfl (fun K hK => ?_) ?_
 ·go_simp
  refine hko hK (by exact trivial) (fun _ => ?_)
  clear hK K
  refine wpAnyH_ready (rs := [19]) (by kernel_rfl) (by simp) ?_
  refine AllReadyH.cons (o := _) rfl (fun K hK => ?_) ?_
  ·go_simp
   rw [Hcs.out]
   rotate_left
   ·exact HE1.out
   ·exact HE2.out
   go_simp
   refine hko hK (by exact trivial) (fun _ => ?_)
   clear hK K
   refine tk 21 ?_
   refine wpAnyH_done (by kernel_rfl) ?_ _
   go_wp2_with fail
   go_ret2
   exact ⟨by rw [← HC.out]; rfl, ((Below.refl _ _).alloc (Nat.le_refl _) _).drew⟩
  exact AllReadyH.nil
 exact AllReadyH.nil

set_option maxRecDepth 100000 in
set_option maxHeartbeats 8000000 in
theorem rmis_any (w : World) (s o : ByteArray) (k x y p q : Nat) (L : List Nat) (hk : 2 * k + 2 ≤ s.size) (hs : s.size ≤ 1000000) (ho : bs o = [p, q]) (hd : (bs s).drop (2 * k) = x :: y :: L) :
  Calls Tryz.prog 141 #[.string s, .int .i64 (k : Int), .string o] w fun e w' => e = .returned (.int .i64 (msmTo [x, y] [p, q] 2)) ∧ ∃ m, w' = w.drewN m := by
 have hoz : o.size = 2 := by rw [← bs_len, ho]; rfl
 have hX : ∀ i (h : 2 * k + i < s.size), i < 2 → (s[2 * k + i]'h).toNat = cf [x, y] i := fun i h hi => by
  rw [← bsc s _ h]
  have : cf ((bs s).drop (2 * k)) i = cf (x :: y :: L) i := by rw [hd]
  unfold cf at this ⊢
  rw [List.getElem?_drop] at this
  rw [this]
  rcases (by omega : i = 0 ∨ i = 1) with rfl | rfl <;> rfl
 have hY : ∀ i (h : i < o.size), (o[i]'h).toNat = cf [p, q] i := fun i h => by rw [← bsc o i h, ho]
 have HX := Lib.hid hX
 have HY := Lib.hid hY
 have hozI : (o.size : Int) = 2 := by omega
 clear hX hY hd ho
 generalize [x, y] = XL at *
 generalize [p, q] = YL at *
 have hkJ : (k : Int) ≤ 1000000 := by omega
 go_enter Tryz.func141, Tryz.ntmps141
 go_wp2
 go_loopw [7, 8] (fun n i wr => ∃ j : Nat, j ≤ 2 ∧ i = .int .i64 (j : Int) ∧ n = .int .i64 (msmTo XL YL j) ∧ ∃ m, wr = w.drewN m) (fun _ i _ => 2 - (intOf i).toNat)
 case atStart => exact ⟨0, by omega, rfl, rfl, 0, rfl⟩
 case round =>
  obtain ⟨j, hj, rfl, rfl, m, hB⟩ := hrel
  have HBr := Lib.hid hB
  clear hB
  by_cases h : j < 2
  ·have hjI : (j : Int) < 2 := by omega
   have hlt : 2 * k + j < s.size := by omega
   have ew1 : IntKind.i64.wrap (2 * (k : Int)) = 2 * k := by rw [IntKind.wrap_i64]; omega
   have ew2 : IntKind.i64.wrap (2 * (k : Int) + j) = 2 * k + j := by rw [IntKind.wrap_i64]; omega
   have e2 : (2 * (k : Int) + j).toNat = 2 * k + j := by omega
   have b1 : (0 : Int) ≤ 2 * k + j := by omega
   have b2 : 2 * (k : Int) + j < s.size := by omega
   have hjo : j < o.size := by omega
   have hx := HX.out j hlt h
   have hy := HY.out j hjo
   have hms : msmTo XL YL (j + 1) = msmTo XL YL j + msm (cf XL j) (cf YL j) := rfl
   have hbd := msmTo_bd XL YL j
   have Hms := Lib.hid hms
   clear hms
   generalize msmTo XL YL j = M at *
   generalize cf XL j = X at *
   generalize cf YL j = Y at *
   by_cases h63 : X = 63
   ·have h63I : ((X : Int) != 63) = false := by rw [bne_eq_false_iff_eq]; omega
    have E0 : Hid (msm X Y = 0) := Lib.hid (by unfold msm; rw [if_pos (.inl h63)])
    clear h63
    go_wp2
    go_quiet (fail)
    go_wp2
    go_roundw
    case rel => exact ⟨j + 1, by omega, by go_num, by rw [Hms.out, E0.out, Int.add_zero], m + nq, by rw [HBr.out, World.drewN_drewN]⟩
    case measure => simp [intOf]; omega
   ·have h63I : ((X : Int) != 63) = true := by rw [bne_iff_ne]; omega
    by_cases hXY : X = Y
    ·have hXYI : ((X : Int) != (Y : Int)) = false := by rw [bne_eq_false_iff_eq]; omega
     have E0 : Hid (msm X Y = 0) := Lib.hid (by unfold msm; rw [if_pos (.inr hXY)])
     clear h63 hXY
     go_wp2
     go_quiet (fail)
     go_wp2
     go_roundw
     case rel => exact ⟨j + 1, by omega, by go_num, by rw [Hms.out, E0.out, Int.add_zero], m + nq, by rw [HBr.out, World.drewN_drewN]⟩
     case measure => simp [intOf]; omega
    ·have hXYI : ((X : Int) != (Y : Int)) = true := by rw [bne_iff_ne]; omega
     have E0 : Hid (msm X Y = 1) := Lib.hid (by unfold msm; rw [if_neg (by rintro (h | h); exact h63 h; exact hXY h)])
     clear h63 hXY
     go_wp2
     go_quiet (fail)
     go_wp2
     go_roundw
     case rel => exact ⟨j + 1, by omega, by go_num, by rw [Hms.out, E0.out], m + nq, by rw [HBr.out, World.drewN_drewN]⟩
     case measure => simp [intOf]; omega
  ·obtain rfl : j = 2 := by omega
   go_wp2
   go_ret
   exact ⟨rfl, m, HBr.out⟩

theorem rck10_any (w : World) (s : ByteArray) (n : Nat) (hn : s.size = 2 * n) (hn2 : 2 ≤ n) (hn1 : n ≤ 1000) (hok : chkE (bs s) = 0) :
  Calls Tryz.prog 138 #[.string s] w fun e w' => e = .returned (.int .i64 0) ∧ w = w' := by
 have H := rck1_any w s (by omega)
 rw [hok] at H
 have H := Lib.hid H
 have h1 : Int.tmod (s.size : Int) 2 = 0 := by rw [Int.tmod_eq_emod_of_nonneg (by omega)]; omega
 have h2 : ¬ ((s.size : Int) < 4) := by omega
 have h3 : 4 ≤ s.size := by omega
 clear hn hn2 hok
 go_enter Tryz.func138, Tryz.ntmps138
 go_wp2_with (go_at_call 77; refine H.out.mono ?_; rintro e w' ⟨rfl, rfl⟩)
 go_ret
 exact ⟨rfl, rfl⟩

end Go.Proofs.YtnlnmfkmbpihhaaGreatDoor
