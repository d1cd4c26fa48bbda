/-
 WALKS: gfpoly: slices.Clone at []byte, Trim.
 WALKS: gfpoly: Add.
 WALKS: gfpoly: Mul.
 WALKS: gfpoly: Eval, Derivative.
 WALKS: reedsolomon: Syndromes at eight parity symbols.
 WALKS: reedsolomon.IsCodeword; rsdecode: at, shifted, scaled, Locate, Radius.
 WALKS: rsdecode.Locate; slices.Clone, Sort, Compact, BinarySearch at the nil slice of ints.
 PLAIN: Berlekamp and Massey's rounds: the sizes of what they hold.
 WALKS: rsdecode.locator.
 WALKS: slices.Clone, Sort, Compact, BinarySearch at the nil slice of ints.
 WALKS: rsdecode.Decode without erasures.
-/
import Derived.Test.YtnlnmfkmbpihhaaGreatDoorCrcA
import Derived.Test.YtnlnmfkmbpihhaaGreatDoorPolA
import Derived.Test.YtnlnmfkmbpihhaaGreatDoorRangeOwn
import Derived.StillTailTactics
import Derived.Laws.CopyOwn
import Derived.Lib.SliceRun
import Derived.WalkSpells
import Derived.Lib.MinMax
namespace Go.Proofs.YtnlnmfkmbpihhaaGreatDoor
open Go.RowKit

set_option maxHeartbeats 1000000 in
theorem cloneb_any (w : World) (v : Value) (p : List Nat) (hp : BytesAt w v p) (hl : p.length ≤ 1000000) : Calls Tryz.prog 167 #[v] w fun e w' => ∃ v', e = .returned v' ∧ BytesAt w' v' p ∧ Below w.heap.size w w' := by
 have hp0 := hp
 obtain ⟨A, c, rfl, h1, h2, h3⟩ := hp
 cases A with
 | none =>
  have hn : p = [] := by
   cases p with
   | nil => rfl
   | cons x r =>
    obtain ⟨b, o, u, hA, _⟩ := h3 0 x rfl
    cases hA
  subst hn
  have heq := Lib.run_eql_slice_nil (P := Tryz.prog) w 100 5 none 0 c 0 0 Tryz.underlying100
  clear h3 hp0
  go_enter Tryz.func167, Tryz.ntmps167
  go_wp2
  go_ret
  exact ⟨_, rfl, SlAt.nil w, Below.refl _ _⟩
 | some ad =>
  have heq := Lib.run_eql_slice_nil (P := Tryz.prog) w 100 5 (some ad) p.length c 0 0 Tryz.underlying100
  have hown := own_empty w 5 1
  have hva : VAt (w.alloc (.cells #[] 5)) (.slice (some ad) p.length c) (p.map u8V) := (hp0.below ((Below.refl _ _).alloc (Nat.le_refl _) _)).vAt
  have Hva := Lib.hid hva
  have H3 := Lib.hid h3
  clear h3 hva hp0
  go_enter Tryz.func167, Tryz.ntmps167
  go_wp2_with (at_builtin; refine wpList_appendV _ Tryz.underlying100 Tryz.infoU8 rfl (by omega) (by rfl) _ _ rfl w.heap.size _ 0 [] rfl _ rfl hown (p.map u8V) Hva.out (one_u8s p) (by simpa using hl) (by simp) ?_; intro v' w1 hown1 hg1 hat1 hb1)
  go_ret
  simp only [Nat.zero_add, List.nil_append] at hown1
  exact ⟨v', rfl, BytesAt.of_own hown1, ((Below.refl _ _).alloc (Nat.le_refl _) _).trans hb1⟩

set_option maxHeartbeats 1000000 in
theorem ptrim_any (w : World) (v : Value) (p : List Nat) (hp : BytesAt w v p) (hl : p.length ≤ 1000000) : Calls Tryz.prog 164 #[v] w fun e w' => ∃ v', e = .returned v' ∧ BytesAt w' v' (ptrim p) ∧ Below w.heap.size w w' := by
 have Hp0 := Lib.hid hp
 obtain ⟨A, c, rfl, h1, h2, h3⟩ := hp
 clear h3
 go_enter Tryz.func164, Tryz.ntmps164
 go_wp2
 go_loop [3] (fun x => ∃ k : Nat, k ≤ p.length ∧ x = .int .i64 k ∧ ptrim (p.take k) = ptrim p) (fun x => (intOf x).toNat)
 case atStart => exact ⟨p.length, Nat.le_refl _, rfl, by rw [List.take_length]⟩
 case round =>
  obtain ⟨k, hk, rfl, ht⟩ := hrel
  have Ht := Lib.hid ht
  clear ht
  have hsl := (Hp0.out).take hk
  have hlk : (p.take k).length ≤ 1000000 := by rw [List.length_take]; omega
  have hck := cloneb_any w (.slice A k c) (p.take k) hsl hlk
  have Hck := Lib.hid hck
  clear hsl hck hlk
  by_cases h0 : k = 0
  ·subst h0
   have e : ptrim p = p.take 0 := by rw [← Ht.out]; rfl
   have He := Lib.hid e
   clear e
   go_wp2_with (go_at_call 167; refine Hck.out.mono ?_; rintro e w1 ⟨v1, rfl, hv1, hb1⟩)
   go_ret
   exact ⟨v1, rfl, by rw [He.out]; exact hv1, hb1⟩
  ·have hkp : k - 1 < p.length := by omega
   have hp1 : p[k - 1]? = some (p[k - 1]'hkp) := List.getElem?_eq_getElem hkp
   obtain ⟨b, o, rfl, hc⟩ := Hp0.out.cell hp1
   have hs1 : IntKind.i64.wrap ((k : Int) - 1) = ((k - 1 : Nat) : Int) := by rw [IntWalk.i64_in _ (by omega)]; omega
   have htk : p.take k = p.take (k - 1) ++ [p[k - 1]'hkp] := by
    have := List.take_add_one (l := p) (i := k - 1)
    rw [hp1, show k - 1 + 1 = k by omega] at this
    exact this
   have hkI : (0 : Int) < k := by omega
   have hkJ : ((k - 1 : Nat) : Int) < p.length := by omega
   generalize p[k - 1]'hkp = x at *
   clear hp1
   by_cases hx : x = 0
   ·subst hx
    have hst : ptrim (p.take (k - 1)) = ptrim p := by rw [← Ht.out, htk, ptrim_snoc_zero]
    have Hst := Lib.hid hst
    clear hst htk
    go_wp2
    go_round
    case rel => exact ⟨k - 1, by omega, rfl, Hst.out⟩
    case measure => simp [intOf]; omega
   ·have e : ptrim p = p.take k := by rw [← Ht.out, htk, ptrim_snoc_other _ hx]
    have He := Lib.hid e
    have hxI : ((x : Int) == 0) = false := by rw [beq_eq_false_iff_ne]; omega
    clear e htk
    go_wp2_with (go_at_call 167; refine Hck.out.mono ?_; rintro e w1 ⟨v1, rfl, hv1, hb1⟩)
    go_ret
    exact ⟨v1, rfl, by rw [He.out]; exact hv1, hb1⟩

end Go.Proofs.YtnlnmfkmbpihhaaGreatDoor

namespace Go.Proofs.YtnlnmfkmbpihhaaGreatDoor
open Go.RowKit

theorem make_u8_max (a b : Nat) (ha : a ≤ 100000) (hb : b ≤ 100000) (w : World) : (Instr.makeSlice 100 (.int .i64 (max (a : Int) b)) (.int .i64 (max (a : Int) b))).run Tryz.prog w = .ok (.slice (some ⟨w.heap.size, 0, none⟩) (max a b) (max a b)) (w.alloc (.cells (arrB (List.replicate (max a b) 0)) 5)) := by
 have e : max (a : Int) b = ((max a b : Nat) : Int) := by omega
 rw [e]
 exact make_u8 _ _ (Nat.le_refl _) (by omega) w
set_option maxRecDepth 100000 in
set_option maxHeartbeats 1000000 in
theorem padd_any (w : World) (v u : Value) (p q : List Nat) (hp : BytesAt w v p) (hq : BytesAt w u q) (bp : Bytes p) (bq : Bytes q) (hl : p.length ≤ 100000) (hm : q.length ≤ 100000) : Calls Tryz.prog 169 #[v, u] w fun e w' => ∃ v', e = .returned v' ∧ BytesAt w' v' (padd p q) ∧ Below w.heap.size w w' := by
 have Hp0 := Lib.hid hp
 have Hq0 := Lib.hid hq
 obtain ⟨A, c, rfl, h1, h2, h3⟩ := hp
 obtain ⟨A', c', rfl, h1', h2', h3'⟩ := hq
 clear h3 h3'
 have hmk := make_u8_max p.length q.length hl hm
 obtain ⟨n, hn⟩ : ∃ n, max p.length q.length = n := ⟨_, rfl⟩
 rw [hn] at hmk
 have hnp : p.length ≤ n := by omega
 have hnq : q.length ≤ n := by omega
 have hnl : n ≤ 100000 := by omega
 have Hn := Lib.hid hn
 clear hn
 have hB0 : Below w.heap.size w (w.alloc (.cells (arrB (List.replicate n 0)) 5)) := (Below.refl _ _).alloc (Nat.le_refl _) _
 obtain ⟨w2, hcopy, hK, hB⟩ := run_copyB (W := w.alloc (.cells (arrB (List.replicate n 0)) 5)) (k := n) 3 (U8B.new w (List.replicate n 0)) (Hp0.out.below hB0) rfl hnp (by simp)
 have HB := Lib.hid (hB w.heap.size w hB0 (Nat.le_refl _))
 have hstart : p ++ (List.replicate n 0).drop p.length = (List.range n).map fun j => if j < 0 then cf p j ^^^ cf q j else cf p j := by
  refine List.ext_getElem? fun j => ?_
  rw [List.getElem?_map]
  by_cases hj : j < n
  ·rw [List.getElem?_range hj, List.getElem?_append]
   split
   ·rename_i h
    simp [cf, List.getElem?_eq_getElem h]
   ·rename_i h
    rw [List.drop_replicate, List.getElem?_replicate, if_pos (by omega)]
    simp [cf_big (Nat.le_of_not_lt h)]
  ·rw [List.getElem?_eq_none (by simp; omega), List.getElem?_eq_none (by simpa using hj)]
   rfl
 rw [hstart] at hK
 have HK := Lib.hid hK
 clear hK hB hB0 hstart
 go_enter Tryz.func169, Tryz.ntmps169
 go_wp2
 go_loopw [18] (fun x wr => ∃ k : Nat, k ≤ q.length ∧ x = .int .i64 k ∧ U8B wr w.heap.size ((List.range n).map fun j => if j < k then cf p j ^^^ cf q j else cf p j) ∧ Below w.heap.size w wr) (fun x _ => q.length - (intOf x).toNat)
 case atStart => exact ⟨0, by omega, rfl, HK.out, HB.out⟩
 case round =>
  obtain ⟨k, hk, rfl, hb, hB⟩ := hrel
  have Hb := Lib.hid hb
  have HBr := Lib.hid hB
  clear hb hB
  by_cases h : k < q.length
  ·have hkI : (k : Int) < q.length := by omega
   have hkn : (k : Int) < n := by omega
   have hkN : k < n := by omega
   have hqk : q[k]? = some (cf q k) := by unfold cf; rw [List.getElem?_eq_getElem h]; rfl
   have hLk : ((List.range n).map fun j => if j < k then cf p j ^^^ cf q j else cf p j)[k]? = some (cf p k) := by rw [List.getElem?_map, List.getElem?_range hkN]; simp
   obtain ⟨b, o, rfl, hc⟩ := (Hq0.out.below HBr.out).cell hqk
   have hc1 := Hb.out.cell hLk
   have hf1 := Blk.frozen Hb.out k
   have Hadd := Lib.hid (fun W => gadd_any W (cf p k) (cf q k) (cf_lt bp k) (cf_lt bq k))
   have hset : ((List.range n).map fun j => if j < k then cf p j ^^^ cf q j else cf p j).set k (cf p k ^^^ cf q k) = (List.range n).map fun j => if j < k + 1 then cf p j ^^^ cf q j else cf p j := by
    refine List.ext_getElem? fun j => ?_
    rw [List.getElem?_set, List.getElem?_map, List.getElem?_map]
    by_cases hj : j < n
    ·rw [List.getElem?_range hj]
     by_cases hjk : k = j
     ·subst hjk
      simp [hj]
     ·rw [if_neg hjk]
      by_cases h1 : j < k
      ·simp [h1, Nat.lt_succ_of_lt h1]
      ·have h2 : ¬ j < k + 1 := by omega
       simp [h1, h2]
    ·rw [List.getElem?_eq_none (by simpa using hj)]
     rw [if_neg (by omega)]
     rfl
   have Hset := Lib.hid (hset ▸ U8B.set Hb.out k (cf p k ^^^ cf q k))
   clear hset hLk hqk
   generalize cf p k = x at *
   generalize cf q k = y at *
   go_wp2
   go_still_tail 12, (by kernel_rfl)
   still_call (still_of (Hadd.out _))
   repeat still_step
   refine wpStill_nil ?_
   go_wp2
   go_roundw
   case rel => exact ⟨k + 1, by omega, by go_num, Hset.out, (HBr.out.setCell (p := ⟨w.heap.size, k, none⟩) (Nat.le_refl _) _).drew⟩
   case measure => simp [intOf]; omega
  ·have hkn : k = q.length := by omega
   subst hkn
   have e : ((List.range n).map fun j => if j < q.length then cf p j ^^^ cf q j else cf p j) = paddR p q := by
    unfold paddR
    rw [Hn.out]
    refine List.map_congr_left fun j _ => ?_
    split
    ·rfl
    ·rename_i h
     rw [cf_big (p := q) (by omega)]
     simp
   have hl2 : (paddR p q).length = n := by rw [paddR_len, Hn.out]
   have hv : BytesAt wr (.slice (some ⟨w.heap.size, 0, none⟩) n n) (paddR p q) := by
    rw [← e]
    exact U8B.bytes Hb.out (by simp) (Nat.le_refl _) (by omega)
   have Ht := Lib.hid (ptrim_any wr _ (paddR p q) hv (by omega))
   clear e hl2 hv
   go_wp2_with (go_at_call 164; refine Ht.out.mono ?_; rintro e w1 ⟨v1, rfl, hv1, hb1⟩)
   go_ret
   exact ⟨v1, rfl, hv1, HBr.out.trans (hb1.mono HBr.out.size)⟩

end Go.Proofs.YtnlnmfkmbpihhaaGreatDoor

namespace Go.Proofs.YtnlnmfkmbpihhaaGreatDoor
open Go.RowKit

theorem make_u8_sum (a b : Nat) (ha : a ≤ 100000) (hb : b ≤ 100000) (w : World) : (Instr.makeSlice 100 (.int .i64 ((a : Int) + b)) (.int .i64 ((a : Int) + b))).run Tryz.prog w = .ok (.slice (some ⟨w.heap.size, 0, none⟩) (a + b) (a + b)) (w.alloc (.cells (arrB (List.replicate (a + b) 0)) 5)) := by
 have e : (a : Int) + b = ((a + b : Nat) : Int) := by omega
 rw [e]
 exact make_u8 _ _ (Nat.le_refl _) (by omega) w
/-- A product's cells, i rows and k places of the next row done. -/
def mulL (p q : List Nat) (n i k : Nat) : List Nat := (List.range n).map fun m => cv p q i m ^^^ (if i ≤ m ∧ m < i + k then gmul (cf p i) (cf q (m - i)) else 0)
theorem mulL_len (p q : List Nat) (n i k : Nat) : (mulL p q n i k).length = n := by unfold mulL; simp
theorem mulL_get {p q : List Nat} {n i k : Nat} (h : i + k < n) : (mulL p q n i k)[i + k]? = some (cv p q i (i + k)) := by
 unfold mulL
 rw [List.getElem?_map, List.getElem?_range h]
 simp
theorem mulL_set {p q : List Nat} {n i k : Nat} (h : i + k < n) : (mulL p q n i k).set (i + k) (cv p q i (i + k) ^^^ gmul (cf p i) (cf q k)) = mulL p q n i (k + 1) := by
 refine List.ext_getElem? fun j => ?_
 rw [List.getElem?_set, mulL_len]
 unfold mulL
 rw [List.getElem?_map, List.getElem?_map]
 by_cases hj : j < n
 ·rw [List.getElem?_range hj]
  by_cases hjk : i + k = j
  ·subst hjk
   have e : i + k - i = k := by omega
   simp [hj, e]
  ·rw [if_neg hjk]
   by_cases h1 : i ≤ j ∧ j < i + k
   ·have h2 : i ≤ j ∧ j < i + (k + 1) := by omega
    simp only [Option.map_some, if_pos h1, if_pos h2]
   ·have h2 : ¬ (i ≤ j ∧ j < i + (k + 1)) := by omega
    simp only [Option.map_some, if_neg h1, if_neg h2]
 ·rw [List.getElem?_eq_none (by simpa using hj), if_neg (by omega)]
  rfl
theorem mulL_row (p q : List Nat) (n i : Nat) : mulL p q n i q.length = mulL p q n (i + 1) 0 := by
 unfold mulL
 refine List.map_congr_left fun m _ => ?_
 have e : ¬ (i + 1 ≤ m ∧ m < i + 1 + 0) := by omega
 rw [if_neg e]
 show _ = (cv p q i m ^^^ (if i ≤ m then gmul (cf p i) (cf q (m - i)) else 0)) ^^^ 0
 rw [Nat.xor_zero]
 by_cases h1 : i ≤ m
 ·by_cases h2 : m < i + q.length
  ·rw [if_pos ⟨h1, h2⟩, if_pos h1]
  ·rw [if_neg (by omega), if_pos h1, cf_big (p := q) (by omega), gmul_zero_right]
 ·rw [if_neg (by omega), if_neg h1]
theorem mulL_zero (p q : List Nat) (n : Nat) : List.replicate n 0 = mulL p q n 0 0 := by
 unfold mulL
 refine List.ext_getElem? fun j => ?_
 rw [List.getElem?_map, List.getElem?_replicate]
 by_cases hj : j < n
 ·rw [if_pos hj, List.getElem?_range hj]
  have e : ¬ (0 ≤ j ∧ j < 0 + 0) := by omega
  simp [cv]
 ·rw [if_neg hj, List.getElem?_eq_none (by simpa using hj)]
  rfl
theorem mulL_end (p q : List Nat) : mulL p q (p.length + q.length) p.length 0 = pmulR p q := by
 unfold mulL pmulR
 refine List.map_congr_left fun m _ => ?_
 rw [if_neg (by omega), Nat.xor_zero]

set_option maxRecDepth 100000 in
set_option maxHeartbeats 2000000 in
theorem pmul_any (w : World) (v u : Value) (p q : List Nat) (hp : BytesAt w v p) (hq : BytesAt w u q) (bp : Bytes p) (bq : Bytes q) (hl : p.length ≤ 100000) (hm : q.length ≤ 100000) : Calls Tryz.prog 102 #[v, u] w fun e w' => ∃ v', e = .returned v' ∧ BytesAt w' v' (pmul p q) ∧ Below w.heap.size w w' := by
 have Hp0 := Lib.hid hp
 have Hq0 := Lib.hid hq
 obtain ⟨A, c, rfl, h1, h2, h3⟩ := hp
 obtain ⟨A', c', rfl, h1', h2', h3'⟩ := hq
 clear h3 h3'
 have hmk := make_u8_sum p.length q.length hl hm
 obtain ⟨n, hn⟩ : ∃ n, p.length + q.length = n := ⟨_, rfl⟩
 rw [hn] at hmk
 have hnl : n ≤ 200000 := by omega
 have HB0 := Lib.hid ((Below.refl w.heap.size w).alloc (Nat.le_refl _) (.cells (arrB (List.replicate n 0)) 5))
 have hK0 : U8B (w.alloc (.cells (arrB (List.replicate n 0)) 5)) w.heap.size (mulL p q n 0 0) := by
  have := U8B.new w (List.replicate n 0)
  rw [← mulL_zero]
  exact this
 have HK0 := Lib.hid hK0
 clear hK0
 have hn1 : p.length + q.length ≤ n := by omega
 have Hn := Lib.hid hn
 clear hn
 go_enter Tryz.func102, Tryz.ntmps102
 go_wp2
 go_loopw [16] (fun x wr => ∃ i : Nat, i ≤ p.length ∧ x = .int .i64 i ∧ U8B wr w.heap.size (mulL p q n i 0) ∧ Below w.heap.size w wr) (fun x _ => p.length - (intOf x).toNat)
 case atStart => exact ⟨0, by omega, rfl, HK0.out, HB0.out⟩
 case round =>
  obtain ⟨i, hi, rfl, hb, hB⟩ := hrel
  have Hb := Lib.hid hb
  have HBr := Lib.hid hB
  clear hb hB
  by_cases h : i < p.length
  ·have hiI : (i : Int) < p.length := by omega
   obtain ⟨wo, hwo⟩ : ∃ wo : World, wo = wr := ⟨_, rfl⟩
   have Hwo := Lib.hid hwo
   clear hwo
   go_wp2
   go_loopw [21] (fun x wr => ∃ k : Nat, k ≤ q.length ∧ x = .int .i64 k ∧ U8B wr w.heap.size (mulL p q n i k) ∧ Below w.heap.size w wr) (fun x _ => q.length - (intOf x).toNat)
   case atStart => exact ⟨0, by omega, rfl, Hb.out, HBr.out⟩
   case round =>
    obtain ⟨k, hk, rfl, hb, hB⟩ := hrel
    clear Hb HBr Hwo
    have Hb := Lib.hid hb
    have HBr := Lib.hid hB
    clear hb hB
    by_cases h' : k < q.length
    ·have hkI : (k : Int) < q.length := by omega
     have hpi : p[i]? = some (cf p i) := by unfold cf; rw [List.getElem?_eq_getElem h]; rfl
     have hqk : q[k]? = some (cf q k) := by unfold cf; rw [List.getElem?_eq_getElem h']; rfl
     obtain ⟨b, o, rfl, hc⟩ := (Hq0.out.below HBr.out).cell hqk
     obtain ⟨b', o', rfl, hc'⟩ := (Hp0.out.below HBr.out).cell hpi
     have hik : i + k < n := by omega
     have hc1 := Hb.out.cell (mulL_get (p := p) (q := q) hik)
     have hf1 := Blk.frozen Hb.out (i + k)
     have Hmul := Lib.hid (fun W => gmul_any W (cf p i) (cf q k) (cf_lt bp i) (cf_lt bq k))
     have Hadd := Lib.hid (fun W => gadd_any W (cv p q i (i + k)) (gmul (cf p i) (cf q k)) (cv_lt bp _ _) (gmul_lt _ (cf_lt bp i)))
     have Hset := Lib.hid (mulL_set (p := p) (q := q) hik ▸ U8B.set Hb.out (i + k) (cv p q i (i + k) ^^^ gmul (cf p i) (cf q k)))
     clear hpi hqk
     generalize gmul (cf p i) (cf q k) = z at *
     generalize cf p i = x at *
     generalize cf q k = y at *
     generalize cv p q i (i + k) = s at *
     have hs1 : IntKind.i64.wrap ((i : Int) + k) = (i : Int) + k := IntWalk.i64_in _ (by omega)
     have hs2 : ((i : Int) + k).toNat = i + k := by omega
     have hs3 : (0 : Int) ≤ (i : Int) + k := by omega
     have hs4 : (i : Int) + k < n := by omega
     go_wp2
     go_still_tail 21, (by kernel_rfl)
     still_call (still_of (Hmul.out _))
     repeat still_step
     still_call (still_of (Hadd.out _))
     repeat still_step
     refine wpStill_nil ?_
     go_wp2
     clear hs1 hs2 hs3 hs4
     go_roundw
     case rel => exact ⟨k + 1, by omega, by go_num, Hset.out, (HBr.out.setCell (p := ⟨w.heap.size, i + k, none⟩) (Nat.le_refl _) _).drew⟩
     case measure => simp [intOf]; omega
    ·have hkn : k = q.length := by omega
     subst hkn
     have Hb2 := Lib.hid (mulL_row p q n i ▸ Hb.out)
     clear Hb
     go_wp2
     go_roundw
     case rel => exact ⟨i + 1, by omega, by go_num, Hb2.out, HBr.out⟩
     case measure => simp [intOf]; omega
  ·have hin : i = p.length := by omega
   subst hin
   have hl2 : (pmulR p q).length = n := by rw [pmulR_len, Hn.out]
   have hv : BytesAt wr (.slice (some ⟨w.heap.size, 0, none⟩) n n) (pmulR p q) := by
    rw [← mulL_end, Hn.out]
    exact U8B.bytes Hb.out (by rw [mulL_len]) (Nat.le_refl _) (by omega)
   have Ht := Lib.hid (ptrim_any wr _ (pmulR p q) hv (by omega))
   clear hl2 hv
   go_wp2_with (go_at_call 164; refine Ht.out.mono ?_; rintro e w1 ⟨v1, rfl, hv1, hb1⟩)
   go_ret
   exact ⟨v1, rfl, hv1, HBr.out.trans (hb1.mono HBr.out.size)⟩

end Go.Proofs.YtnlnmfkmbpihhaaGreatDoor

namespace Go.Proofs.YtnlnmfkmbpihhaaGreatDoor
open Go.RowKit

theorem drop_last {p : List Nat} {k : Nat} (h : k < p.length) : p.drop (p.length - (k + 1)) = cf p (p.length - 1 - k) :: p.drop (p.length - k) := by
 have e : p.length - (k + 1) < p.length := by omega
 rw [List.drop_eq_getElem_cons e, show p.length - (k + 1) + 1 = p.length - k by omega, show p.length - 1 - k = p.length - (k + 1) by omega]
 unfold cf
 rw [List.getElem?_eq_getElem e]
 rfl
set_option maxRecDepth 100000 in
set_option maxHeartbeats 1000000 in
theorem peval_any (w : World) (v : Value) (p : List Nat) (x : Nat) (hp : BytesAt w v p) (bp : Bytes p) (hx : x < 256) (hl : p.length ≤ 100000) : Calls Tryz.prog 106 #[v, .int .u8 (x : Int)] w fun e w' => e = .returned (.int .u8 (hev x p : Nat)) ∧ Below w.heap.size w w' := by
 have Hp0 := Lib.hid hp
 obtain ⟨A, c, rfl, h1, h2, h3⟩ := hp
 clear h3
 go_enter Tryz.func106, Tryz.ntmps106
 go_wp2
 go_loopw [5, 9] (fun s y wr => ∃ k : Nat, k ≤ p.length ∧ y = .int .i64 k ∧ s = .int .u8 (hev x (p.drop (p.length - k)) : Nat) ∧ Below w.heap.size w wr) (fun _ y _ => p.length - (intOf y).toNat)
 case atStart => exact ⟨0, by omega, rfl, by rw [Nat.sub_zero, List.drop_length]; rfl, Below.refl _ _⟩
 case round =>
  obtain ⟨k, hk, rfl, rfl, hB⟩ := hrel
  have HBr := Lib.hid hB
  clear hB
  by_cases h : k < p.length
  ·have hkI : (k : Int) < p.length := by omega
   have hpk : p[p.length - 1 - k]? = some (cf p (p.length - 1 - k)) := by unfold cf; rw [List.getElem?_eq_getElem (by omega)]; rfl
   obtain ⟨b, o, rfl, hc⟩ := (Hp0.out.below HBr.out).cell hpk
   have hb1 : hev x (p.drop (p.length - k)) < 256 := hev_lt hx fun y hy => bp y (List.mem_of_mem_drop hy)
   have Hmul := Lib.hid (fun W => gmul_any W _ x hb1 hx)
   have Hadd := Lib.hid (fun W => gadd_any W _ (cf p (p.length - 1 - k)) (gmul_lt x hb1) (cf_lt bp _))
   have hst : hev x (p.drop (p.length - (k + 1))) = gmul (hev x (p.drop (p.length - k))) x ^^^ cf p (p.length - 1 - k) := by rw [drop_last h]; rfl
   have Hst := Lib.hid hst
   clear hst hpk hb1
   have hs1 : IntKind.i64.wrap ((p.length : Int) - 1) = (p.length : Int) - 1 := IntWalk.i64_in _ (by omega)
   have hs2 : IntKind.i64.wrap ((p.length : Int) - 1 - k) = (p.length : Int) - 1 - k := IntWalk.i64_in _ (by omega)
   have hs3 : ((p.length : Int) - 1 - k).toNat = p.length - 1 - k := by omega
   have hs4 : (0 : Int) ≤ (p.length : Int) - 1 - k := by omega
   have hs5 : (p.length : Int) - 1 - k < p.length := by omega
   have hs6 : (k : Int) ≤ (p.length : Int) - 1 := by omega
   generalize cf p (p.length - 1 - k) = y at *
   go_wp2
   go_still_tail 12, (by kernel_rfl)
   still_call (still_of (Hmul.out _))
   repeat still_step
   still_call (still_of (Hadd.out _))
   repeat still_step
   refine wpStill_nil ?_
   go_wp2
   clear hs1 hs2 hs3 hs4 hs5 hs6
   go_roundw
   case rel => exact ⟨k + 1, by omega, by go_num, by rw [Hst.out], HBr.out.drew⟩
   case measure => simp [intOf]; omega
  ·have hkn : k = p.length := by omega
   subst hkn
   have e : p.drop (p.length - p.length) = p := by rw [Nat.sub_self]; rfl
   have He := Lib.hid e
   clear e
   go_wp2
   go_ret
   exact ⟨ret_num (by rw [He.out]), HBr.out⟩

/-- The first k coefficients of a derivative. -/
def derL (p : List Nat) (k : Nat) : List Nat := (List.range k).map fun i => if i % 2 = 0 then cf p (i + 1) else 0
theorem derL_snoc (p : List Nat) (k : Nat) : derL p k ++ [if k % 2 = 0 then cf p (k + 1) else 0] = derL p (k + 1) := by
 unfold derL
 rw [List.range_succ, List.map_append]
 rfl
set_option maxRecDepth 100000 in
set_option maxHeartbeats 1000000 in
theorem pder_any (w : World) (v : Value) (p : List Nat) (hp : BytesAt w v p) (hl : p.length ≤ 100000) : Calls Tryz.prog 105 #[v] w fun e w' => ∃ v', e = .returned v' ∧ BytesAt w' v' (pder p) ∧ Below w.heap.size w w' := by
 have Hp0 := Lib.hid hp
 obtain ⟨A, c, rfl, h1, h2, h3⟩ := hp
 clear h3
 go_enter Tryz.func105, Tryz.ntmps105
 go_wp2
 go_loopw [3, 4] (fun s y wr => ∃ k : Nat, k ≤ p.length - 1 ∧ y = .int .i64 ((k + 1 : Nat) : Int) ∧ wr.ownsRow w.heap.size 5 1 s k ((derL p k).map u8V) ∧ Below w.heap.size w wr) (fun _ y _ => p.length - (intOf y).toNat)
 case atStart => exact ⟨0, by omega, rfl, World.ownsRow_nil _ _ _ _, Below.refl _ _⟩
 case round =>
  obtain ⟨k, hk, rfl, ho, hB⟩ := hrel
  have HBr := Lib.hid hB
  have Ho := Lib.hid ho
  clear hB ho
  by_cases h : k + 1 < p.length
  ·have hkI : ((k + 1 : Nat) : Int) < p.length := by omega
   have hpk : p[k + 1]? = some (cf p (k + 1)) := by unfold cf; rw [List.getElem?_eq_getElem (by omega)]; rfl
   obtain ⟨b, o, rfl, hc⟩ := (Hp0.out.below HBr.out).cell hpk
   have Hsn := Lib.hid (derL_snoc p k)
   have hk9 : k ≤ 900000 := by omega
   have hBz := HBr.out.size
   by_cases hk2 : k % 2 = 0
   ·have hmod : (((k + 1 : Nat) : Int) % 2 == 1) = true := by rw [beq_iff_eq]; omega
    have Hk2 := Lib.hid hk2
    clear hpk hk2
    go_wp2_with (at_builtin; refine wpList_app1 rfl _ _ rfl rfl rfl Ho.out hk9 hBz ?_; intro v1 w1 ho1 hb1)
    go_roundw
    case rel =>
     refine ⟨k + 1, by omega, by go_num, ?_, HBr.out.trans hb1⟩
     rw [← Hsn.out, if_pos Hk2.out]
     exact ho1
    case measure => simp [intOf]; omega
   ·have hmod : (((k + 1 : Nat) : Int) % 2 == 1) = false := by rw [beq_eq_false_iff_ne]; omega
    have Hk2 := Lib.hid hk2
    clear hpk hk2
    go_wp2_with (at_builtin; refine wpList_app1 (x := 0) rfl _ _ rfl rfl rfl Ho.out hk9 hBz ?_; intro v1 w1 ho1 hb1)
    go_roundw
    case rel =>
     refine ⟨k + 1, by omega, by go_num, ?_, HBr.out.trans hb1⟩
     rw [← Hsn.out, if_neg Hk2.out]
     exact ho1
    case measure => simp [intOf]; omega
  ·have hkn : k = p.length - 1 := by omega
   have hlen : (derL p k).length = k := by unfold derL; simp
   have e : pder p = ptrim (derL p k) := by rw [hkn]; rfl
   have Ht := Lib.hid (ptrim_any wr _ (derL p k) (BytesAt.of_own Ho.out) (by omega))
   have He := Lib.hid e
   have hI : ¬ ((k + 1 : Nat) : Int) < p.length := by omega
   clear hkn hlen e
   go_wp2_with (go_at_call 164; refine Ht.out.mono ?_; rintro e w1 ⟨v1, rfl, hv1, hb1⟩)
   go_ret
   exact ⟨v1, rfl, by rw [He.out]; exact hv1, HBr.out.trans (hb1.mono HBr.out.size)⟩

end Go.Proofs.YtnlnmfkmbpihhaaGreatDoor

namespace Go.Proofs.YtnlnmfkmbpihhaaGreatDoor
open Go.RowKit

theorem make_u8_8 (w : World) : (Instr.makeSlice 100 (.int .i64 8) (.int .i64 8)).run Tryz.prog w = .ok (.slice (some ⟨w.heap.size, 0, none⟩) 8 8) (w.alloc (.cells (arrB (List.replicate 8 0)) 5)) := make_u8 8 8 (Nat.le_refl _) (by omega) w
/-- The syndromes' cells, i of them done, the next one being s. -/
def synL (w : List Nat) (i s : Nat) : List Nat := (List.range 8).map fun j => if j < i then wv (pw j) w else if j = i then s else 0
theorem synL_len (w : List Nat) (i s : Nat) : (synL w i s).length = 8 := by unfold synL; simp
theorem synL_get {w : List Nat} {i s : Nat} (h : i < 8) : (synL w i s)[i]? = some s := by
 unfold synL
 rw [List.getElem?_map, List.getElem?_range h]
 simp
theorem synL_set {w : List Nat} {i s t : Nat} (h : i < 8) : (synL w i s).set i t = synL w i t := by
 refine List.ext_getElem? fun j => ?_
 rw [List.getElem?_set, synL_len]
 unfold synL
 rw [List.getElem?_map, List.getElem?_map]
 by_cases hj : j < 8
 ·rw [List.getElem?_range hj]
  by_cases hij : i = j
  ·subst hij
   simp [h]
  ·simp [hij, Ne.symm hij]
 ·rw [List.getElem?_eq_none (by simpa using hj), if_neg (by omega)]
  rfl
theorem synL_next (w : List Nat) (i : Nat) : synL w i (wv (pw i) w) = synL w (i + 1) 0 := by
 unfold synL
 refine List.map_congr_left fun j _ => ?_
 by_cases h1 : j < i
 ·rw [if_pos h1, if_pos (by omega)]
 ·rw [if_neg h1]
  by_cases h2 : j = i
  ·subst h2
   rw [if_pos rfl, if_pos (by omega)]
  ·rw [if_neg h2, if_neg (by omega)]
   split <;> rfl
theorem synL_zero (w : List Nat) : synL w 0 0 = List.replicate 8 0 := by
 refine List.ext_getElem? fun j => ?_
 unfold synL
 rw [List.getElem?_map, List.getElem?_replicate]
 by_cases hj : j < 8
 ·rw [List.getElem?_range hj, if_pos hj]
  have : ¬ j < 0 := by omega
  simp
 ·rw [if_neg hj, List.getElem?_eq_none (by simpa using hj)]
  rfl
theorem synL_end (w : List Nat) : synL w 8 0 = synd w := by
 unfold synL synd
 refine List.map_congr_left fun j h => ?_
 rw [if_pos (List.mem_range.1 h)]
theorem gexp_nat {i : Nat} (h : i < 255) : gexp (i : Int) = pw i := by
 unfold gexp gexpN
 congr 1
 omega

set_option maxRecDepth 100000 in
set_option maxHeartbeats 2000000 in
theorem rssyn_any (w : World) (s : ByteArray) (h1 : 8 ≤ s.size) (h2 : s.size ≤ 255) : Calls Tryz.prog 100 #[.string s, .int .i64 8] w fun e w' => ∃ v, e = .returned (.tuple #[v, .int .i64 0]) ∧ BytesAt w' v (synd (bs s)) ∧ Below w.heap.size w w' := by
 have hmk := make_u8_8
 have h1I : ¬ (s.size : Int) < 8 := by omega
 have h2I : ¬ (255 : Int) < s.size := by omega
 have HB0 := Lib.hid ((Below.refl w.heap.size w).alloc (Nat.le_refl _) (.cells (arrB [0, 0, 0, 0, 0, 0, 0, 0]) 5))
 have hK0 : U8B (w.alloc (.cells (arrB [0, 0, 0, 0, 0, 0, 0, 0]) 5)) w.heap.size (synL (bs s) 0 0) := by
  rw [synL_zero]
  exact U8B.new w _
 have HK0 := Lib.hid hK0
 clear hK0
 go_enter Tryz.func100, Tryz.ntmps100
 go_wp2
 go_loopw [30] (fun x wr => ∃ i : Nat, i ≤ 8 ∧ x = .int .i64 i ∧ U8B wr w.heap.size (synL (bs s) i 0) ∧ Below w.heap.size w wr) (fun x _ => 8 - (intOf x).toNat)
 case atStart => exact ⟨0, by omega, rfl, HK0.out, HB0.out⟩
 case round =>
  obtain ⟨i, hi, rfl, hb, hB⟩ := hrel
  have Hb := Lib.hid hb
  have HBr := Lib.hid hB
  clear hb hB
  by_cases h : i < 8
  ·have hiI : (i : Int) < 8 := by omega
   have He := Lib.hid (fun W => gexp_any W (i : Int) (by omega))
   have Hg := Lib.hid (gexp_nat (i := i) (by omega))
   go_wp2_with (go_at_call 103; refine (He.out _).mono ?_; rintro e w1 ⟨rfl, hb1⟩)
   have hlt := Blk.lt Hb.out
   have Hb1 := Lib.hid (Blk.kept Hb.out hb1)
   have HBr1 := Lib.hid (HBr.out.trans (hb1.mono HBr.out.size))
   clear hb1
   rw [Hg.out]
   obtain ⟨wo, hwo⟩ : ∃ wo : World, wo = w1 := ⟨_, rfl⟩
   have Hwo := Lib.hid hwo
   clear hwo
   go_loopw [37] (fun x wr => ∃ k : Nat, k ≤ s.size ∧ x = .int .i64 k ∧ U8B wr w.heap.size (synL (bs s) i (wv (pw i) ((bs s).take k))) ∧ Below w.heap.size w wr) (fun x _ => s.size - (intOf x).toNat)
   case atStart => exact ⟨0, by omega, rfl, Hb1.out, HBr1.out⟩
   case round =>
    obtain ⟨k, hk, rfl, hb, hB⟩ := hrel
    clear Hb HBr Hwo Hb1 HBr1
    have Hb := Lib.hid hb
    have HBr := Lib.hid hB
    clear hb hB
    by_cases h' : k < s.size
    ·have hkI : (k : Int) < s.size := by omega
     have hbt : Bytes ((bs s).take k) := fun b hb => bs_lt s b (List.mem_of_mem_take hb)
     obtain ⟨b, hb⟩ : ∃ b : Nat, b = (s[k]'h').toNat := ⟨_, rfl⟩
     have hbl : b < 256 := by rw [hb]; exact UInt8.toNat_lt _
     have htk := bs_take s k h'
     rw [← hb] at htk
     have hst : wv (pw i) ((bs s).take (k + 1)) = gmul (wv (pw i) ((bs s).take k)) (pw i) ^^^ b := by rw [htk, wv_snoc]
     have Hst := Lib.hid hst
     have hx := wv_lt (x := pw i) hbt
     have hc1 := Hb.out.cell (synL_get (w := bs s) h)
     have hf1 := Blk.frozen Hb.out i
     have Hmul := Lib.hid (fun W => gmul_any W _ (pw i) hx (pw_lt i))
     have Hadd := Lib.hid (fun W => gadd_any W _ b (gmul_lt (pw i) hx) hbl)
     have Hset := Lib.hid (synL_set (w := bs s) (s := wv (pw i) ((bs s).take k)) (t := gmul (wv (pw i) ((bs s).take k)) (pw i) ^^^ b) h ▸ U8B.set Hb.out i _)
     have hbI : (((s[k]'h').toNat : Nat) : Int) = (b : Int) := by rw [hb]
     clear hst htk hbt hb
     generalize wv (pw i) ((bs s).take k) = z at *
     generalize pw i = y at *
     go_wp2
     go_still_tail 13, (by kernel_rfl)
     still_call (still_of (Hmul.out _))
     repeat still_step
     still_call (still_of (Hadd.out _))
     repeat still_step
     refine wpStill_nil ?_
     go_wp2
     go_roundw
     case rel => exact ⟨k + 1, by omega, by go_num, by rw [Hst.out]; exact Hset.out, (HBr.out.setCell (p := ⟨w.heap.size, i, none⟩) (Nat.le_refl _) _).drew⟩
     case measure => simp [intOf]; omega
    ·have hkn : k = s.size := by omega
     subst hkn
     have e : (bs s).take s.size = bs s := by rw [← bs_len, List.take_length]
     have Hb2 := Lib.hid (synL_next (bs s) i ▸ e ▸ Hb.out)
     clear Hb e
     go_wp2
     go_roundw
     case rel => exact ⟨i + 1, by omega, by go_num, Hb2.out, HBr.out⟩
     case measure => simp [intOf]; omega
  ·have hin : i = 8 := by omega
   subst hin
   have hv : BytesAt wr (.slice (some ⟨w.heap.size, 0, none⟩) 8 8) (synd (bs s)) := by
    rw [← synL_end]
    exact U8B.bytes Hb.out (by rw [synL_len]) (Nat.le_refl _) (by omega)
   have Hv := Lib.hid hv
   clear hv
   go_wp2
   go_ret2
   exact ⟨_, rfl, Hv.out, HBr.out⟩

end Go.Proofs.YtnlnmfkmbpihhaaGreatDoor

namespace Go.Proofs.YtnlnmfkmbpihhaaGreatDoor
open Go.RowKit

theorem synd_bytes {w : List Nat} (h : Bytes w) : Bytes (synd w) := bytes_map fun _ _ => wv_lt h
theorem all_zero {l : List Nat} (h : l.length = 8) : l = List.replicate 8 0 ↔ ∀ j, j < 8 → cf l j = 0 := by
 constructor
 ·rintro rfl j hj
  unfold cf
  rw [List.getElem?_replicate, if_pos hj]
  rfl
 ·intro hz
  refine List.ext_getElem? fun i => ?_
  rw [List.getElem?_replicate]
  by_cases hi : i < 8
  ·rw [if_pos hi]
   have := hz i hi
   unfold cf at this
   rw [List.getElem?_eq_getElem (by omega)] at this ⊢
   simpa using this
  ·rw [if_neg hi, List.getElem?_eq_none (by omega)]
def zero8 (l : List Nat) : Bool := decide (l = List.replicate 8 0)
set_option maxHeartbeats 1000000 in
theorem rsis_any (w : World) (s : ByteArray) (h1 : 8 ≤ s.size) (h2 : s.size ≤ 255) : Calls Tryz.prog 112 #[.string s, .int .i64 8] w fun e w' => e = .returned (.bool (zero8 (synd (bs s)))) ∧ Below w.heap.size w w' := by
 have Hs := Lib.hid (rssyn_any w s h1 h2)
 have hlen := synd_len (bs s)
 have hby := synd_bytes (bs_lt s)
 generalize synd (bs s) = L at *
 go_enter Tryz.func112, Tryz.ntmps112
 go_wp2_with (go_at_call 100; refine Hs.out.mono ?_; rintro e w1 ⟨v, rfl, hv, hb⟩; obtain ⟨A, c, rfl, k1, k2, k3⟩ := hv; have Hv : Hid (BytesAt w1 (.slice A L.length c) L) := Lib.hid ⟨A, c, rfl, k1, k2, k3⟩; have Hb := Lib.hid hb; clear hb k3)
 go_loop [17] (fun x => ∃ k : Nat, k ≤ 8 ∧ x = .int .i64 k ∧ ∀ j, j < k → cf L j = 0) (fun x => 8 - (intOf x).toNat)
 case atStart => exact ⟨0, by omega, rfl, fun j hj => by omega⟩
 case round =>
  obtain ⟨k, hk, rfl, hz⟩ := hrel
  have Hz := Lib.hid hz
  have Hl := Lib.hid hlen
  have hl8 : L.length ≤ 8 := by omega
  have hl9 : 8 ≤ L.length := by omega
  clear hz hlen
  by_cases h : k < 8
  ·have hkI : (k : Int) < L.length := by omega
   have hLk : L[k]? = some (cf L k) := by unfold cf; rw [List.getElem?_eq_getElem (by omega)]; rfl
   obtain ⟨b, o, rfl, hc⟩ := BytesAt.cell Hv.out hLk
   by_cases h0 : cf L k = 0
   ·have hI : ((cf L k : Nat) : Int) = 0 := by omega
    have hI2 : (((cf L k : Nat) : Int) != 0) = false := by simp [h0]
    have H0 := Lib.hid h0
    have Hc := Lib.hid hc
    have hc' : w1.cell? ⟨b, o + k, none⟩ = some (.int .u8 0) := by rw [← hI]; exact hc
    clear hLk hc h0 hI hI2
    go_wp2
    go_round
    case rel =>
     refine ⟨k + 1, by omega, by go_num, fun j hj => ?_⟩
     rcases Nat.lt_succ_iff_lt_or_eq.1 hj with h1 | rfl
     ·exact Hz.out j h1
     ·exact H0.out
    case measure => simp [intOf]; omega
   ·have hI2 : (((cf L k : Nat) : Int) != 0) = true := by rw [bne_iff_ne]; omega
    have e : zero8 L = false := by
     unfold zero8
     rw [decide_eq_false_iff_not, all_zero Hl.out]
     exact fun hh => h0 (hh k h)
    have He := Lib.hid e
    clear hLk h0 e
    go_wp2
    go_ret
    exact ⟨by rw [He.out]; rfl, Hb.out⟩
  ·have hk8 : k = 8 := by omega
   subst hk8
   have e : zero8 L = true := by
    unfold zero8
    rw [decide_eq_true_eq, all_zero Hl.out]
    exact Hz.out
   have He := Lib.hid e
   have hI : ¬ (8 : Int) < L.length := by omega
   clear e
   go_wp2
   go_ret
   exact ⟨by rw [He.out]; rfl, Hb.out⟩
set_option maxHeartbeats 400000 in
theorem dat_any (w : World) (v : Value) (p : List Nat) (d : Nat) (hp : BytesAt w v p) : Calls Tryz.prog 168 #[v, .int .i64 (d : Int)] w fun e w' => e = .returned (.int .u8 (cf p d : Nat)) ∧ w = w' := by
 have Hp0 := Lib.hid hp
 obtain ⟨A, c, rfl, h1, h2, h3⟩ := hp
 clear h3
 by_cases h : d < p.length
 ·have hI : (d : Int) < p.length := by omega
  have hpd : p[d]? = some (cf p d) := by unfold cf; rw [List.getElem?_eq_getElem h]; rfl
  obtain ⟨b, o, rfl, hc⟩ := BytesAt.cell Hp0.out hpd
  clear hpd
  go_enter Tryz.func168, Tryz.ntmps168
  go_wp2
  go_ret
  exact ⟨rfl, rfl⟩
 ·have hI : (p.length : Int) ≤ d := by omega
  have He := Lib.hid (cf_big (p := p) (i := d) (by omega))
  go_enter Tryz.func168, Tryz.ntmps168
  go_wp2
  go_ret
  exact ⟨ret_num (by rw [He.out]; rfl), rfl⟩
set_option maxHeartbeats 400000 in
theorem dscale_any (w : World) (v : Value) (p : List Nat) (x : Nat) (hp : BytesAt w v p) (bp : Bytes p) (hx : x < 256) (hl : p.length ≤ 100000) : Calls Tryz.prog 171 #[v, .int .u8 (x : Int)] w fun e w' => ∃ v', e = .returned v' ∧ BytesAt w' v' (pmul p [x]) ∧ Below w.heap.size w w' := by
 have hB : Below w.heap.size w (w.alloc (.cells #[.int .u8 (x : Int)] 5)) := (Below.refl _ _).alloc (Nat.le_refl _) _
 have Hm := Lib.hid (pmul_any (w.alloc (.cells #[.int .u8 (x : Int)] 5)) v (.slice (some ⟨w.heap.size, 0, none⟩) 1 1) p [x] (hp.below hB) (BytesAt.one w x) bp (fun b hb => by cases hb with | head => exact hx | tail _ h => cases h) hl (by simp))
 have HB := Lib.hid hB
 clear hB hp
 go_enter Tryz.func171, Tryz.ntmps171
 go_wp2_with (go_at_call 102; refine Hm.out.mono ?_; rintro e w1 ⟨v1, rfl, hv1, hb1⟩)
 go_ret
 exact ⟨v1, rfl, hv1, HB.out.trans (hb1.mono HB.out.size)⟩
set_option maxHeartbeats 400000 in
theorem dshift_any (w : World) (v : Value) (p : List Nat) (k : Nat) (hp : BytesAt w v p) (hk : k ≤ 100000) (hl : p.length ≤ 100000) : Calls Tryz.prog 170 #[v, .int .i64 (k : Int)] w fun e w' => ∃ v', e = .returned v' ∧ BytesAt w' v' (List.replicate k 0 ++ p) ∧ Below w.heap.size w w' := by
 have hmk := make_u8 k k (Nat.le_refl _) (by omega)
 have hB : Below w.heap.size w (w.alloc (.cells (arrB (List.replicate k 0)) 5)) := (Below.refl _ _).alloc (Nat.le_refl _) _
 have hown : (w.alloc (.cells (arrB (List.replicate k 0)) 5)).ownsRow w.heap.size 5 1 (.slice (some ⟨w.heap.size, 0, none⟩) k k) k ((List.replicate k 0).map u8V) :=
  own_blk (U8B.new w _) (Nat.le_refl _) (by simp) (by simp; omega)
 have Hva := Lib.hid (hp.below hB).vAt
 have Hown := Lib.hid hown
 have HB := Lib.hid hB
 clear hB hp hown
 go_enter Tryz.func170, Tryz.ntmps170
 go_wp2_with (at_builtin; refine wpList_appendV _ Tryz.underlying100 Tryz.infoU8 rfl (by omega) (by rfl) _ _ rfl w.heap.size _ k _ rfl v rfl Hown.out (p.map u8V) Hva.out (one_u8s p) (by simp; omega) (by simp) ?_; intro v' w1 hown1 hg1 hat1 hb1)
 go_ret
 rw [← List.map_append] at hown1
 exact ⟨v', rfl, BytesAt.of_own hown1, HB.out.trans hb1⟩
theorem ret_bool {a b : Bool} (h : a = b) : Ending.returned (.bool a) = .returned (.bool b) := by rw [h]
set_option maxHeartbeats 400000 in
theorem dradius_any (w : World) (k : Nat) (hk : k ≤ 1000) : Calls Tryz.prog 113 #[.int .i64 8, .int .i64 (k : Int), .int .i64 0] w fun e w' => e = .returned (.bool (decide (k ≤ 4))) ∧ w = w' := by
 have hI : (0 : Int) ≤ k := by omega
 go_enter Tryz.func113, Tryz.ntmps113
 go_wp2
 go_ret
 exact ⟨ret_bool (by simp; omega), rfl⟩

end Go.Proofs.YtnlnmfkmbpihhaaGreatDoor

namespace Go.Proofs.YtnlnmfkmbpihhaaGreatDoor
open Go.RowKit

def differTo (a b : List Nat) (k : Nat) : List Nat := (List.range k).filter fun i => cf a i != cf b i
theorem differTo_succ (a b : List Nat) (k : Nat) : differTo a b (k + 1) = if cf a k = cf b k then differTo a b k else differTo a b k ++ [k] := by
 unfold differTo
 rw [List.range_succ, List.filter_append]
 by_cases h : cf a k = cf b k
 ·simp [h]
 ·simp [h]
theorem differTo_len (a b : List Nat) (k : Nat) : (differTo a b k).length ≤ k := by
 have := List.length_filter_le (fun i => cf a i != cf b i) (List.range k)
 unfold differTo
 simpa using this
abbrev natV (x : Nat) : Value := .int .i64 (x : Int)
theorem bs_cf (s : ByteArray) (k : Nat) (h : k < s.size) : cf (bs s) k = (s[k]'h).toNat := cf_get (bs_get s k h)
set_option maxHeartbeats 1000000 in
theorem dlocate_any (w : World) (s t : ByteArray) (h1 : s.size = t.size) (h2 : s.size ≤ 100000) : Calls Tryz.prog 110 #[.string s, .string t] w fun e w' => ∃ v, e = .returned (.tuple #[v, .int .i64 0]) ∧ SlAt (PlainR natV) w' v (differ (bs s) (bs t)) ∧ Below w.heap.size w w' := by
 have hneq : ((s.size : Int) != (t.size : Int)) = false := by rw [bne_eq_false_iff_eq]; omega
 have H1 := Lib.hid h1
 have hle : s.size ≤ t.size := by omega
 clear h1
 go_enter Tryz.func110, Tryz.ntmps110
 go_wp2
 go_loopw [6, 15] (fun v x wr => ∃ k : Nat, k ≤ s.size ∧ x = .int .i64 k ∧ wr.ownsRow w.heap.size 3 1 v (differTo (bs s) (bs t) k).length ((differTo (bs s) (bs t) k).map natV) ∧ Below w.heap.size w wr) (fun _ x _ => s.size - (intOf x).toNat)
 case atStart => exact ⟨0, by omega, rfl, World.ownsRow_nil _ _ _ _, Below.refl _ _⟩
 case round =>
  obtain ⟨k, hk, rfl, ho, hB⟩ := hrel
  have Ho := Lib.hid ho
  have HBr := Lib.hid hB
  clear ho hB
  have hlen : (differTo (bs s) (bs t) k).length ≤ 900000 := Nat.le_trans (differTo_len _ _ k) (by omega)
  have hBz := HBr.out.size
  by_cases h : k < s.size
  ·have hkI : (k : Int) < s.size := by omega
   have hkJ : (k : Int) < t.size := by omega
   have hkt : k < t.size := by omega
   have hst := differTo_succ (bs s) (bs t) k
   rw [bs_cf s k h, bs_cf t k hkt] at hst
   by_cases he : (s[k]'h).toNat = (t[k]'hkt).toNat
   ·rw [if_pos he] at hst
    have hI : ((((s[k]'h).toNat : Nat) : Int) != (((t[k]'hkt).toNat : Nat) : Int)) = false := by rw [bne_eq_false_iff_eq]; omega
    have Hst := Lib.hid hst
    clear hst he
    go_wp2
    go_quiet (fail)
    go_wp2
    go_roundw
    case rel => exact ⟨k + 1, by omega, by go_num, by rw [Hst.out]; exact Ho.out, below_drewN HBr.out nq⟩
    case measure => simp [intOf]; omega
   ·rw [if_neg he] at hst
    have hI : ((((s[k]'h).toNat : Nat) : Int) != (((t[k]'hkt).toNat : Nat) : Int)) = true := by rw [bne_iff_ne]; omega
    have Hst := Lib.hid hst
    clear hst he
    go_wp2
    go_quiet (fail)
    go_wp2_with (at_builtin; refine wpList_appOne Tryz.underlying70 Tryz.infoInt rfl (by omega) rfl _ _ rfl rfl rfl rfl Ho.out hlen hBz ?_; intro v1 w1 ho1 hb1)
    go_roundw
    case rel =>
     refine ⟨k + 1, by omega, by go_num, ?_, ?_⟩
     ·rw [Hst.out, List.length_append, List.map_append]
      exact ho1
     ·exact (below_drewN HBr.out nq).trans hb1
    case measure => simp [intOf]; omega
  ·have hkn : k = s.size := by omega
   subst hkn
   have e : differTo (bs s) (bs t) s.size = differ (bs s) (bs t) := by unfold differTo differ; rw [bs_len]
   have Hv := Lib.hid (e ▸ SlAt.of_own Ho.out)
   clear e
   go_wp2
   go_ret2
   exact ⟨_, rfl, Hv.out, HBr.out⟩

end Go.Proofs.YtnlnmfkmbpihhaaGreatDoor

namespace Go.Proofs.YtnlnmfkmbpihhaaGreatDoor

structure BMok (t : BM) (n : Nat) : Prop where
 bl : Bytes t.l
 bp : Bytes t.prev
 ll : t.l.length ≤ 1 + 20 * n
 lp : t.prev.length ≤ 1 + 20 * n
 len : t.length ≤ n
 gap : t.gap ≤ n + 1
 last : t.last < 256
theorem gdv_lt {a b : Nat} (ha : a < 256) : gdv a b < 256 := by
 unfold gdv
 split
 ·omega
 ·exact gmul_lt _ ha
theorem disc_lt {l s : List Nat} (hl : Bytes l) (m : Nat) : ∀ i, disc l s m i < 256
 | 0 => by unfold disc; omega
 | i + 1 => xor_lt (disc_lt hl m i) (gmul_lt _ (cf_lt hl i))
theorem bytes_rep {l : List Nat} (h : Bytes l) (k : Nat) : Bytes (List.replicate k 0 ++ l) := by
 intro b hb
 rcases List.mem_append.1 hb with hb | hb
 ·have := List.eq_of_mem_replicate hb
  omega
 ·exact h b hb
theorem bytes_one {x : Nat} (h : x < 256) : Bytes [x] := fun b hb => by
 obtain rfl : b = x := by simpa using hb
 exact h
theorem bm_ok (s : List Nat) : ∀ n, n ≤ 8 → BMok (bmRun s n) n
 | 0, _ => ⟨bytes_one (by omega), bytes_one (by omega), Nat.le_refl 1, Nat.le_refl 1, Nat.le_refl 0, Nat.le_refl 1, (by omega : (1 : Nat) < 256)⟩
 | n + 1, h => by
  obtain ⟨h1, h2, h3, h4, h5, h6, h7⟩ := bm_ok s n (by omega)
  show BMok (bmStep s n (bmRun s n)) (n + 1)
  generalize bmRun s n = t at *
  unfold bmStep
  simp only
  split
  ·exact ⟨h1, h2, by show t.l.length ≤ _; omega, by show t.prev.length ≤ _; omega, by show t.length ≤ _; omega, by show t.gap + 1 ≤ _; omega, h7⟩
  ·have hd := disc_lt h1 (s := s) n (n + 1)
   have hq : Bytes (List.replicate t.gap 0 ++ pmul t.prev [gdv (disc t.l s n (n + 1)) t.last]) := bytes_rep (pmul_bytes h2) _
   have hq2 := padd_bytes h1 hq
   have hq3 := padd_len t.l (List.replicate t.gap 0 ++ pmul t.prev [gdv (disc t.l s n (n + 1)) t.last])
   have hq4 := pmul_len t.prev [gdv (disc t.l s n (n + 1)) t.last]
   rw [List.length_append, List.length_replicate] at hq3
   rw [List.length_singleton] at hq4
   split
   ·exact ⟨hq2, h1, by show (padd _ _).length ≤ _; omega, by show t.l.length ≤ _; omega, by show n + 1 - t.length ≤ _; omega, by show (1 : Nat) ≤ _; omega, hd⟩
   ·exact ⟨hq2, h2, by show (padd _ _).length ≤ _; omega, by show t.prev.length ≤ _; omega, by show t.length ≤ _; omega, by show t.gap + 1 ≤ _; omega, h7⟩
theorem bmRun_succ (s : List Nat) (n : Nat) : bmRun s (n + 1) = bmStep s n (bmRun s n) := by rw [bmRun]
theorem bmStep_zero {s : List Nat} {n : Nat} {t : BM} (h : disc t.l s n (n + 1) = 0) : bmStep s n t = { t with gap := t.gap + 1 } := by
 unfold bmStep
 simp only
 rw [if_pos h]
def bmNext (s : List Nat) (n : Nat) (t : BM) : List Nat := padd t.l (List.replicate t.gap 0 ++ pmul t.prev [gdv (disc t.l s n (n + 1)) t.last])
theorem bmStep_far {s : List Nat} {n : Nat} {t : BM} (h : disc t.l s n (n + 1) ≠ 0) (h2 : 2 * t.length ≤ n) : bmStep s n t = ⟨bmNext s n t, t.l, n + 1 - t.length, 1, disc t.l s n (n + 1)⟩ := by
 unfold bmStep
 simp only
 rw [if_neg h, if_pos h2]
 rfl
theorem bmStep_near {s : List Nat} {n : Nat} {t : BM} (h : disc t.l s n (n + 1) ≠ 0) (h2 : ¬ 2 * t.length ≤ n) : bmStep s n t = ⟨bmNext s n t, t.prev, t.length, t.gap + 1, t.last⟩ := by
 unfold bmStep
 simp only
 rw [if_neg h, if_neg h2]
 rfl
theorem locP_bytes (s : List Nat) : Bytes (locP s) := ptrim_bytes (bm_ok s 8 (Nat.le_refl _)).bl
theorem locP_len (s : List Nat) : (locP s).length ≤ 161 := Nat.le_trans (ptrim_len _) (bm_ok s 8 (Nat.le_refl _)).ll

/-! the corrections, place by place -/
def xAt (w : List Nat) (i : Nat) : Nat := pw ((255 - (w.length - 1 - i)) % 255)
theorem fixP_skip {l om sl w out : List Nat} {i r : Nat} (h : fixP l om sl w i = some (out, r)) (h0 : hev (xAt w i) l ≠ 0) : fixP l om sl w (i + 1) = some (out, r) := by
 unfold fixP
 rw [h]
 unfold xAt at h0
 simp only [h0, ne_eq, not_false_eq_true, if_true]
theorem fixP_fail {l om sl w out : List Nat} {i r : Nat} (h : fixP l om sl w i = some (out, r)) (h0 : hev (xAt w i) l = 0) (h1 : hev (xAt w i) sl = 0) : fixP l om sl w (i + 1) = none := by
 unfold fixP
 rw [h]
 unfold xAt at h0 h1
 simp only [h0, h1, ne_eq, not_true_eq_false, if_false, if_true]
theorem fixP_fix {l om sl w out : List Nat} {i r : Nat} (h : fixP l om sl w i = some (out, r)) (h0 : hev (xAt w i) l = 0) (h1 : hev (xAt w i) sl ≠ 0) :
  fixP l om sl w (i + 1) = some (out.set i (cf out i ^^^ gdv (gmul (pw (w.length - 1 - i)) (hev (xAt w i) om)) (hev (xAt w i) sl)), r + 1) := by
 unfold gdv
 rw [if_neg h1]
 unfold fixP
 rw [h]
 unfold xAt at h0 h1 ⊢
 simp only [h0, h1, ne_eq, not_true_eq_false, if_false]
theorem fixP_none {l om sl w : List Nat} {i : Nat} (h : fixP l om sl w i = none) : ∀ k, fixP l om sl w (i + k) = none
 | 0 => h
 | k + 1 => by
  show fixP l om sl w (i + k + 1) = none
  unfold fixP
  rw [fixP_none h k]
theorem fixP_ok {l om sl w : List Nat} (hw : Bytes w) : ∀ (i : Nat) {out : List Nat} {r : Nat}, fixP l om sl w i = some (out, r) → out.length = w.length ∧ Bytes out ∧ r ≤ i
 | 0, out, r, h => by
  unfold fixP at h
  cases h
  exact ⟨rfl, hw, Nat.le_refl _⟩
 | i + 1, out, r, h => by
  cases hi : fixP l om sl w i with
  | none => rw [fixP_none hi 1] at h; cases h
  | some p =>
   obtain ⟨o, q⟩ := p
   obtain ⟨k1, k2, k3⟩ := fixP_ok hw i hi
   by_cases h0 : hev (xAt w i) l = 0
   ·by_cases h1 : hev (xAt w i) sl = 0
    ·rw [fixP_fail hi h0 h1] at h; cases h
    ·rw [fixP_fix hi h0 h1] at h
     cases h
     refine ⟨by rw [List.length_set]; exact k1, fun b hb => ?_, by omega⟩
     rcases List.mem_or_eq_of_mem_set hb with hb | rfl
     ·exact k2 b hb
     ·exact xor_lt (cf_lt k2 i) (gdv_lt (gmul_lt _ (pw_lt _)))
   ·rw [fixP_skip hi h0] at h
    cases h
    exact ⟨k1, k2, by omega⟩

def rsFin (l w : List Nat) : Option (List Nat × Nat) → Option (List Nat × Nat)
 | none => none
 | some (out, roots) => if roots + 1 = l.length ∧ synd out = List.replicate 8 0 ∧ (differ w out).length ≤ 4 then some (out, (differ w out).length) else none
theorem rsDec_eq {w S l O : List Nat} (hS : synd w = S) (hl : locP S = l) (hO : pmul S l = O) : rsDec w = rsFin l w (fixP l (O.take 8) (pder l) w w.length) := by
 subst hS hl hO
 rfl

end Go.Proofs.YtnlnmfkmbpihhaaGreatDoor

namespace Go.Proofs.YtnlnmfkmbpihhaaGreatDoor
open Go.RowKit

theorem gdivR_eq (a b : Nat) : gdivR a b = .tuple #[.int .u8 (gdv a b : Nat), .bool (decide (b ≠ 0))] := by
 unfold gdivR gdv
 by_cases h : b = 0 <;> simp [h]
/-- Between two rounds of the locator's loop. -/
def LocI (w : World) (S : List Nat) (l prev len gap last n : Value) (wr : World) : Prop :=
 ∃ k : Nat, k ≤ 8 ∧ n = .int .i64 k ∧ BytesAt wr l (bmRun S k).l ∧ BytesAt wr prev (bmRun S k).prev ∧ len = .int .i64 (bmRun S k).length ∧ gap = .int .i64 (bmRun S k).gap ∧ last = .int .u8 (bmRun S k).last ∧ Below w.heap.size w wr
set_option maxRecDepth 100000 in
set_option maxHeartbeats 4000000 in
theorem dloc_any (w : World) (v u : Value) (S : List Nat) (hS : BytesAt w v S) (hl : S.length = 8) (bS : Bytes S) (hu : BytesAt w u [1]) : Calls Tryz.prog 104 #[v, u] w fun e w' => ∃ v', e = .returned v' ∧ BytesAt w' v' (locP S) ∧ Below w.heap.size w w' := by
 have HS := Lib.hid hS
 obtain ⟨A, c, rfl, h1, h2, h3⟩ := hS
 have Hu := Lib.hid hu
 obtain ⟨A', c', rfl, h1', h2', h3'⟩ := hu
 have Hl := Lib.hid hl
 have hl8 : S.length ≤ 8 := by omega
 have hl9 : 8 ≤ S.length := by omega
 clear h3 h3' hl
 have Hc1 := Lib.hid (cloneb_any w _ [1] Hu.out (by decide))
 go_enter Tryz.func104, Tryz.ntmps104
 go_wp2_with fail
 refine Hc1.out.mono ?_
 rintro e w1 ⟨v1, rfl, hv1, hb1⟩
 have Hv1 := Lib.hid hv1
 have Hb1 := Lib.hid hb1
 have Hc2 := Lib.hid (cloneb_any w1 _ [1] (Hu.out.below hb1) (by decide))
 clear hv1 hb1
 go_wp2_with fail
 refine Hc2.out.mono ?_
 rintro e w2 ⟨v2, rfl, hv2, hb2⟩
 have Hv2 := Lib.hid hv2
 have Hb2 := Lib.hid (Hb1.out.trans (hb2.mono Hb1.out.size))
 have Hv1' := Lib.hid (Hv1.out.below hb2)
 clear hv2 hb2
 go_wp2
 go_loopw [6, 7, 8, 9, 10, 11] (fun l prev len gap last n wr => LocI w S l prev len gap last n wr) (fun _ _ _ _ _ n _ => 8 - (intOf n).toNat)
 case atStart => exact ⟨0, by omega, rfl, Hv1'.out, Hv2.out, rfl, rfl, rfl, Hb2.out⟩
 case round =>
  obtain ⟨k, hk, rfl, gl, gp, rfl, rfl, rfl, hB⟩ := hrel
  have Hgl := Lib.hid gl
  have Hgp := Lib.hid gp
  have HBr := Lib.hid hB
  clear Hc1 Hc2 Hv1 Hb1 Hv2 Hb2 Hv1' gl gp hB
  by_cases h : k < 8
  ·have hkI : (k : Int) < S.length := by omega
   have hok := bm_ok S k (by omega)
   have hnx := bmRun_succ S k
   have Hnx := Lib.hid hnx
   clear hnx
   generalize bmRun S k = t at *
   have Hok := Lib.hid hok
   have hlen := hok.len
   have hgap := hok.gap
   clear hok
   obtain ⟨wo, hwo⟩ : ∃ wo : World, wo = wr := ⟨_, rfl⟩
   subst hwo
   go_wp2
   go_loopw [12, 13] (fun d i wr => ∃ j : Nat, j ≤ k + 1 ∧ i = .int .i64 j ∧ d = .int .u8 (disc t.l S k j : Nat) ∧ Below wo.heap.size wo wr) (fun _ i _ => k + 1 - (intOf i).toNat)
   case atStart => exact ⟨0, by omega, rfl, rfl, Below.refl _ _⟩
   case round =>
    obtain ⟨j, hj, rfl, rfl, hBi⟩ := hrel
    have HBi := Lib.hid hBi
    clear hBi
    by_cases hj2 : j ≤ k
    ·have hjI : (j : Int) ≤ k := by omega
     have hSk : S[k - j]? = some (cf S (k - j)) := by unfold cf; rw [List.getElem?_eq_getElem (by omega)]; rfl
     obtain ⟨b, o, rfl, hc⟩ := BytesAt.cell ((HS.out.below HBr.out).below HBi.out) hSk
     have Hat := Lib.hid (dat_any wr.drew u6 t.l j (Hgl.out.below HBi.out.drew))
     have Hmul := Lib.hid (fun W => gmul_any W (cf t.l j) (cf S (k - j)) (cf_lt Hok.out.bl _) (cf_lt bS _))
     have Hadd := Lib.hid (fun W => gadd_any W (disc t.l S k j) _ (disc_lt Hok.out.bl k j) (gmul_lt (cf S (k - j)) (cf_lt Hok.out.bl j)))
     have Hst : Hid (disc t.l S k (j + 1) = disc t.l S k j ^^^ gmul (cf t.l j) (cf S (k - j))) := Lib.hid rfl
     have hs1 : IntKind.i64.wrap ((k : Int) - j) = (k : Int) - j := IntWalk.i64_in _ (by omega)
     have hs3 : ((k : Int) - j).toNat = k - j := by omega
     have hs4 : (0 : Int) ≤ (k : Int) - j := by omega
     have hs5 : (k : Int) - j < S.length := by omega
     clear hSk
     generalize cf S (k - j) = y at *
     generalize cf t.l j = x at *
     go_wp2
     go_still_tail 12, (by kernel_rfl)
     still_call (still_of Hat.out)
     repeat still_step
     still_call (still_of (Hmul.out _))
     repeat still_step
     still_call (still_of (Hadd.out _))
     repeat still_step
     refine wpStill_nil ?_
     go_wp2
     clear hs1 hs3 hs4 hs5
     go_roundw
     case rel => exact ⟨j + 1, by omega, by go_num, by rw [Hst.out], HBi.out.drew⟩
     case measure => simp [intOf]; omega
    ·have hjk : j = k + 1 := by omega
     subst hjk
     have hnI : ¬ ((k + 1 : Nat) : Int) ≤ k := by omega
     have hD := disc_lt Hok.out.bl (s := S) k (k + 1)
     have HgL := Lib.hid (Hgl.out.below HBi.out)
     have HgP := Lib.hid (Hgp.out.below HBi.out)
     have HBw := Lib.hid (HBr.out.trans (HBi.out.mono HBr.out.size))
     clear HBi HBr Hgl Hgp
     obtain ⟨D, hDe⟩ : ∃ D, disc t.l S k (k + 1) = D := ⟨_, rfl⟩
     rw [hDe] at hD
     rw [hDe]
     have HD := Lib.hid hDe
     clear hDe
     by_cases h0 : D = 0
     ·have hI : ((D : Int) == 0) = true := by rw [beq_iff_eq]; omega
      have e := Hnx.out.trans (bmStep_zero (HD.out.trans h0))
      have He := Lib.hid e
      clear e h0
      go_wp2
      go_roundw
      case rel =>
       refine ⟨k + 1, by omega, by go_num, ?_, ?_, ?_, ?_, ?_, HBw.out⟩
       ·rw [He.out]; exact HgL.out
       ·rw [He.out]; exact HgP.out
       ·rw [He.out]
       ·rw [He.out]; go_num
       ·rw [He.out]
      case measure => simp [intOf]; omega
     ·have hI : ((D : Int) == 0) = false := by rw [beq_eq_false_iff_ne]; omega
      have hD0 : disc t.l S k (k + 1) ≠ 0 := by rw [HD.out]; exact h0
      have HD0 := Lib.hid hD0
      have Hdiv := Lib.hid (gdiv_any wr D t.last hD Hok.out.last)
      have hby : gdv D t.last < 256 := gdv_lt hD
      have Hnext : Hid (bmNext S k t = padd t.l (List.replicate t.gap 0 ++ pmul t.prev [gdv D t.last])) := by
       refine Lib.hid ?_
       rw [← HD.out]
       rfl
      clear h0 hD0
      go_wp2_with fail
      refine Hdiv.out.mono ?_
      rintro e w1 ⟨rfl, hb1⟩
      rw [gdivR_eq]
      have HB1 := Lib.hid (HBw.out.trans (hb1.mono HBw.out.size))
      have HgL1 := Lib.hid (HgL.out.below hb1)
      have HgP1 := Lib.hid (HgP.out.below hb1)
      clear HBw HgL HgP hb1 Hdiv
      generalize gdv D t.last = by' at *
      have Hsc := Lib.hid (dscale_any w1 u7 t.prev by' HgP1.out Hok.out.bp hby (by have := Hok.out.lp; omega))
      go_wp2_with fail
      refine Hsc.out.mono ?_
      rintro e w2 ⟨v2, rfl, hv2, hb2⟩
      have HB2 := Lib.hid (HB1.out.trans (hb2.mono HB1.out.size))
      have HgL2 := Lib.hid (HgL1.out.below hb2)
      have HgP2 := Lib.hid (HgP1.out.below hb2)
      have hpl : (pmul t.prev [by']).length ≤ 400 := by have := pmul_len t.prev [by']; have := Hok.out.lp; rw [List.length_singleton] at *; omega
      have Hsh := Lib.hid (dshift_any w2 v2 _ t.gap hv2 (by omega) (by omega))
      clear HB1 HgL1 HgP1 hb2 hv2 Hsc
      go_wp2_with fail
      refine Hsh.out.mono ?_
      rintro e w3 ⟨v3, rfl, hv3, hb3⟩
      have HB3 := Lib.hid (HB2.out.trans (hb3.mono HB2.out.size))
      have HgL3 := Lib.hid (HgL2.out.below hb3)
      have HgP3 := Lib.hid (HgP2.out.below hb3)
      have Hpa := Lib.hid (padd_any w3 u6 v3 t.l _ HgL3.out hv3 Hok.out.bl (bytes_rep (pmul_bytes Hok.out.bp) t.gap) (by have := Hok.out.ll; omega) (by rw [List.length_append, List.length_replicate]; omega))
      rw [← Hnext.out] at Hpa
      clear HB2 HgL2 HgP2 hb3 hv3 Hsh
      go_wp2_with fail
      refine Hpa.out.mono ?_
      rintro e w4 ⟨v4, rfl, hv4, hb4⟩
      have HB4 := Lib.hid (HB3.out.trans (hb4.mono HB3.out.size))
      have HgL4 := Lib.hid (HgL3.out.below hb4)
      have HgP4 := Lib.hid (HgP3.out.below hb4)
      have Hv4 := Lib.hid hv4
      clear HB3 HgL3 HgP3 hb4 hv4 Hpa
      by_cases h2 : 2 * t.length ≤ k
      ·have h2I : 2 * (t.length : Int) ≤ k := by omega
       have He := Lib.hid (Hnx.out.trans (bmStep_far HD0.out h2))
       go_wp2
       go_roundw
       case rel =>
        refine ⟨k + 1, by omega, by go_num, ?_, ?_, ?_, ?_, ?_, HB4.out⟩
        ·rw [He.out]; exact Hv4.out
        ·rw [He.out]; exact HgL4.out
        ·rw [He.out]; exact congrArg (Value.int .i64) (by show _ = ((k + 1 - t.length : Nat) : Int); omega)
        ·rw [He.out]; rfl
        ·rw [He.out, HD.out]
       case measure => simp [intOf]; omega
      ·have h2I : ¬ 2 * (t.length : Int) ≤ k := by omega
       have He := Lib.hid (Hnx.out.trans (bmStep_near HD0.out h2))
       go_wp2
       go_roundw
       case rel =>
        refine ⟨k + 1, by omega, by go_num, ?_, ?_, ?_, ?_, ?_, HB4.out⟩
        ·rw [He.out]; exact Hv4.out
        ·rw [He.out]; exact HgP4.out
        ·rw [He.out]
        ·rw [He.out]; go_num
        ·rw [He.out]
       case measure => simp [intOf]; omega
  ·have hk8 : k = 8 := by omega
   have hlen := (bm_ok S k hk).ll
   have e : ptrim (bmRun S k).l = locP S := by unfold locP; rw [hk8]
   have hI : ¬ (k : Int) < S.length := by omega
   have He := Lib.hid e
   have Hgl2 := Lib.hid Hgl.out
   clear e hk8 Hgl Hgp
   generalize (bmRun S k).l = L at *
   have Ht := Lib.hid (ptrim_any wr u6 _ Hgl2.out (by omega))
   rw [He.out] at Ht
   go_wp2_with (go_at_call 164; refine Ht.out.mono ?_; rintro e w1 ⟨v1, rfl, hv1, hb1⟩)
   go_ret
   exact ⟨v1, rfl, hv1, HBr.out.trans (hb1.mono HBr.out.size)⟩

end Go.Proofs.YtnlnmfkmbpihhaaGreatDoor

namespace Go.Proofs.YtnlnmfkmbpihhaaGreatDoor
open Go.RowKit

set_option maxHeartbeats 400000 in
theorem clonei_nil (w : World) : Calls Tryz.prog 101 #[.slice none 0 0] w fun e w' => e = .returned (.slice none 0 0) ∧ w = w' := by
 have heq := Lib.run_eql_slice_nil (P := Tryz.prog) w 70 3 none 0 0 0 0 Tryz.underlying70
 go_enter Tryz.func101, Tryz.ntmps101
 go_wp2
 go_ret
 exact ⟨rfl, rfl⟩
set_option maxHeartbeats 400000 in
theorem comp_nil (w : World) : Calls Tryz.prog 68 #[.slice none 0 0] w fun e w' => e = .returned (.slice none 0 0) ∧ w = w' := by
 go_enter Tryz.func68, Tryz.ntmps68
 go_wp2
 go_ret
 exact ⟨rfl, rfl⟩
set_option maxHeartbeats 400000 in
theorem bin_nil (w : World) (x : Int) : Calls Tryz.prog 111 #[.slice none 0 0, .int .i64 x] w fun e w' => e = .returned (.tuple #[.int .i64 0, .bool false]) ∧ w = w' := by
 go_enter Tryz.func111, Tryz.ntmps111
 go_wp2
 refine wp_loop_rounds 1 ?_
 rw [rounds_succ]
 go_wp2
 go_ret2
 exact ⟨rfl, rfl⟩
set_option maxRecDepth 100000 in
set_option maxHeartbeats 1000000 in
theorem len64_nil (w : World) : Calls Tryz.prog 187 #[.int .u64 0] w fun e w' => e = .returned (.int .i64 0) ∧ w = w' := by
 go_enter Tryz.func187, Tryz.ntmps187
 go_wp2
 go_ret
 exact ⟨ret_num (by kernel_rfl), rfl⟩
set_option maxHeartbeats 400000 in
theorem len_nil (w : World) : Calls Tryz.prog 119 #[.int .u64 0] w fun e w' => e = .returned (.int .i64 0) ∧ w = w' := by
 have H := Lib.hid (len64_nil w)
 go_enter Tryz.func119, Tryz.ntmps119
 go_wp2_with (go_at_call 187; refine H.out.mono ?_; rintro e w' ⟨rfl, rfl⟩)
 go_ret
 exact ⟨rfl, rfl⟩
set_option maxHeartbeats 400000 in
theorem ins_nil (w : World) : Calls Tryz.prog 192 #[.slice none 0 0, .int .i64 0, .int .i64 0] w fun e w' => e = .returned (.tuple #[]) ∧ w = w' := by
 go_enter Tryz.func192, Tryz.ntmps192
 go_wp2
 refine wp_loop_rounds 1 ?_
 rw [rounds_succ]
 go_wp2
 go_end0
 exact ⟨rfl, rfl⟩
set_option maxRecDepth 100000 in
set_option maxHeartbeats 1000000 in
theorem pdq_nil (w : World) : Calls Tryz.prog 129 #[.slice none 0 0, .int .i64 0, .int .i64 0, .int .i64 0] w fun e w' => e = .returned (.tuple #[]) ∧ w = w' := by
 have H := Lib.hid (ins_nil w)
 go_enter Tryz.func129, Tryz.ntmps129
 go_wp2
 refine wp_loop_rounds 1 ?_
 rw [rounds_succ]
 go_wp2_with (go_at_call 192; refine H.out.mono ?_; rintro e w' ⟨rfl, rfl⟩)
 refine bodyPost_ret (results_none rfl _ _ _) rfl ?_
 exact ⟨rfl, rfl⟩
set_option maxHeartbeats 400000 in
theorem sort_nil (w : World) : Calls Tryz.prog 67 #[.slice none 0 0] w fun e w' => e = .returned (.tuple #[]) ∧ w = w' := by
 have H := Lib.hid (len_nil w)
 have H2 := Lib.hid (pdq_nil w)
 go_enter Tryz.func67, Tryz.ntmps67
 go_wp2_with (first | (go_at_call 119; refine H.out.mono ?_; rintro e w' ⟨rfl, rfl⟩) | (go_at_call 129; refine H2.out.mono ?_; rintro e w' ⟨rfl, rfl⟩))
 go_end0
 exact ⟨rfl, rfl⟩

end Go.Proofs.YtnlnmfkmbpihhaaGreatDoor

namespace Go.Proofs.YtnlnmfkmbpihhaaGreatDoor
open Go.RowKit

theorem differ_len (a b : List Nat) : (differ a b).length ≤ a.length := by
 have := List.length_filter_le (fun i => cf a i != cf b i) (List.range a.length)
 unfold differ
 simpa using this
def rsDecR (w : List Nat) : Value := match rsDec w with
 | none => .tuple #[.string ⟨#[]⟩, .int .i64 0, .int .i64 11]
 | some (o, n) => .tuple #[.string (strB o), .int .i64 (n : Int), .int .i64 0]
set_option maxRecDepth 200000 in
set_option maxHeartbeats 8000000 in
theorem ddec_any (w : World) (s : ByteArray) (h1 : 8 ≤ s.size) (h2 : s.size ≤ 255) : Calls Tryz.prog 54 #[.string s, .int .i64 8, .slice none 0 0] w fun e w' => e = .returned (rsDecR (bs s)) ∧ Below w.heap.size w w' := by
 have h1I : ¬ (s.size : Int) < 8 := by omega
 have Hs := Lib.hid (rssyn_any w s h1 h2)
 have bS := synd_bytes (bs_lt s)
 have hSl := synd_len (bs s)
 obtain ⟨S, hS⟩ : ∃ S, synd (bs s) = S := ⟨_, rfl⟩
 rw [hS] at Hs bS hSl
 have HS := Lib.hid hS
 have HSl := Lib.hid hSl
 clear hS hSl
 go_enter Tryz.func54, Tryz.ntmps54
 go_wp2_with fail
 refine Hs.out.mono ?_
 rintro e w1 ⟨vS, rfl, hv, hb⟩
 have HvS := Lib.hid hv
 have HB1 := Lib.hid hb
 clear hv hb Hs
 go_wp2_with fail
 refine (clonei_nil _).mono ?_
 rintro e w' ⟨rfl, rfl⟩
 go_wp2_with fail
 refine (sort_nil _).mono ?_
 rintro e w' ⟨rfl, rfl⟩
 go_wp2_with fail
 refine (comp_nil _).mono ?_
 rintro e w' ⟨rfl, rfl⟩
 go_wp2
 refine wp_loop_rounds 1 ?_
 rw [rounds_succ]
 have hbA : Below w1.heap.size w1 (w1.alloc (.cells #[.int .u8 1] 5)) := (Below.refl _ _).alloc (Nat.le_refl _) _
 have Hloc := Lib.hid (dloc_any (w1.alloc (.cells #[.int .u8 1] 5)) vS _ S (HvS.out.below hbA) HSl.out bS (BytesAt.one w1 1))
 have HvA := Lib.hid (HvS.out.below hbA)
 have HBA := Lib.hid (HB1.out.trans (hbA.mono HB1.out.size))
 have hln := locP_len S
 have hlb := locP_bytes S
 obtain ⟨l, hl⟩ : ∃ l, locP S = l := ⟨_, rfl⟩
 rw [hl] at Hloc hln hlb
 have Hl := Lib.hid hl
 clear hbA HvS HB1 hl
 go_wp2_with fail
 refine Hloc.out.mono ?_
 rintro e w2 ⟨vl, rfl, hvl, hb⟩
 have HvL := Lib.hid hvl
 have HvS := Lib.hid (HvA.out.below hb)
 have HB2 := Lib.hid (HBA.out.trans (hb.mono HBA.out.size))
 have Hmul := Lib.hid (pmul_any w2 vS vl S l (HvA.out.below hb) hvl bS hlb (by have := HSl.out; omega) (by omega))
 have hob : Bytes (pmul S l) := pmul_bytes bS
 have hol := pmul_len S l
 rw [HSl.out] at hol
 obtain ⟨O, hO⟩ : ∃ O, pmul S l = O := ⟨_, rfl⟩
 rw [hO] at Hmul hob hol
 have HO := Lib.hid hO
 clear HvA HBA hO hb hvl Hloc
 go_wp2_with fail
 refine Hmul.out.mono ?_
 rintro e w3 ⟨vo, rfl, hvo, hb⟩
 have HvL3 := Lib.hid (HvL.out.below hb)
 have HB3 := Lib.hid (HB2.out.trans (hb.mono HB2.out.size))
 have HvO := Lib.hid hvo
 obtain ⟨A, c, rfl, k1, k2, k3⟩ := hvo
 have Hder := Lib.hid (pder_any w3 vl l HvL3.out (by omega))
 clear HvL HvS HB2 hb k3 Hmul
 have hbw : Bytes (bs s) := bs_lt s
 have Hw := Lib.hid hbw
 clear hbw hob
 by_cases hO8 : 8 < O.length
 case' pos =>
  have h8c : 8 ≤ c := by omega
  have hO8I : (8 : Int) < O.length := by omega
  have Hom : Hid (BytesAt w3 (.slice A 8 c) (O.take 8)) := Lib.hid (HvO.out.take (k := 8) (by omega))
 case' neg =>
  have hO8I : ¬ (8 : Int) < O.length := by omega
  have Hom : Hid (BytesAt w3 (.slice A O.length c) (O.take 8)) := Lib.hid (by rw [List.take_of_length_le (by omega)]; exact HvO.out)
 all_goals
  have hfx := rsDec_eq HS.out Hl.out HO.out
  rw [bs_len] at hfx
  have Hfx := Lib.hid hfx
  have hbom : Bytes (O.take 8) := fun b hb => by
   have h := pmul_bytes (q := l) bS
   rw [HO.out] at h
   exact h b (List.mem_of_mem_take hb)
  have hlom : (O.take 8).length ≤ 8 := by rw [List.length_take]; omega
  have hbsl : Bytes (pder l) := pder_bytes hlb
  have hlsl := pder_len l
  clear hfx HvO k1 k2 hol HO Hl HS
  generalize O.take 8 = om at *
  generalize pder l = sl at *
  go_wp2_with fail
  refine Hder.out.mono ?_
  rintro e w4 ⟨vs, rfl, hvs, hb⟩
  have HvL := Lib.hid (HvL3.out.below hb)
  have Hvo := Lib.hid (Hom.out.below hb)
  have HB4 := Lib.hid (HB3.out.trans (hb.mono HB3.out.size))
  have Hvs := Lib.hid hvs
  obtain ⟨cc, w5, hcv, hc1, hc2, hrow, hbb, hsz5⟩ := run_toBytes w4 s (by omega)
  have Hrow := Lib.hid hrow
  have Hbb := Lib.hid hbb
  clear hb hvs HvL3 Hom HB3 hrow hbb hsz5 Hder
  go_wp2
  go_loopw [20, 101] (fun r x wr => ∃ (i q : Nat) (out : List Nat), i ≤ s.size ∧ x = .int .i64 i ∧ r = .int .i64 q ∧ fixP l om sl (bs s) i = some (out, q) ∧ RowB wr w4.heap.size out ∧ Below w4.heap.size w4 wr) (fun _ x _ => s.size - (intOf x).toNat)
  case atStart => exact ⟨0, 0, bs s, by omega, rfl, rfl, rfl, Hrow.out, Hbb.out⟩
  case round =>
   obtain ⟨i, q, out, hi, rfl, rfl, hf, hr, hB⟩ := hrel
   clear hcv Hrow Hbb
   have Hf := Lib.hid hf
   have Hr := Lib.hid hr
   have HBr := Lib.hid hB
   obtain ⟨g1, g2, g3⟩ := fixP_ok Hw.out i hf
   rw [bs_len] at g1
   have HvL5 := Lib.hid (HvL.out.below hB)
   have Hvo5 := Lib.hid (Hvo.out.below hB)
   have Hvs5 := Lib.hid (Hvs.out.below hB)
   have G1 := Lib.hid g1
   clear hf hr hB g1
   by_cases h : i < s.size
   ·have hiI : (i : Int) < s.size := by omega
    have hx1 : ∀ T : Int, T = -((s.size : Int) - 1 - i) → gexp T = xAt (bs s) i := by
     rintro T rfl
     unfold gexp gexpN xAt
     rw [bs_len]
     congr 1
     omega
    have hx2 : ∀ T : Int, T = (s.size : Int) - 1 - i → gexp T = pw (s.size - 1 - i) := by
     rintro T rfl
     unfold gexp gexpN
     congr 1
     omega
    have hxl : xAt (bs s) i < 256 := pw_lt _
    have Hx1 := Lib.hid hx1
    have Hx2 := Lib.hid hx2
    have hs1 : (0 : Int) ≤ (s.size : Int) - 1 - i := by omega
    clear hx1 hx2
    go_wp2_with fail
    refine (gexp_any _ _ (by omega)).mono ?_
    rintro e w6 ⟨rfl, hb⟩
    rw [Hx1.out _ (by omega)]
    have HL6 := Lib.hid (HvL5.out.below hb)
    have HO6 := Lib.hid (Hvo5.out.below hb)
    have HS6 := Lib.hid (Hvs5.out.below hb)
    have HR6 := Lib.hid (Hr.out.kept hb)
    have HB6 := Lib.hid (HBr.out.trans (hb.mono HBr.out.size))
    clear hb HvL5 Hvo5 Hvs5 Hr HBr
    obtain ⟨X, hX⟩ : ∃ X, xAt (bs s) i = X := ⟨_, rfl⟩
    rw [hX]
    rw [hX] at hxl
    have HX := Lib.hid hX
    clear hX Hx1
    have Hev := Lib.hid (peval_any w6 _ l X HL6.out hlb hxl (by omega))
    go_wp2_with fail
    refine Hev.out.mono ?_
    rintro e w7 ⟨rfl, hb⟩
    have HL7 := Lib.hid (HL6.out.below hb)
    have HO7 := Lib.hid (HO6.out.below hb)
    have HS7 := Lib.hid (HS6.out.below hb)
    have HR7 := Lib.hid (HR6.out.kept hb)
    have HB7 := Lib.hid (HB6.out.trans (hb.mono HB6.out.size))
    clear hb HL6 HO6 HS6 HR6 HB6 Hev
    by_cases h0 : hev X l = 0
    ·have h0I : ((hev X l : Int) != 0) = false := by rw [bne_eq_false_iff_eq]; omega
     have H0 : Hid (hev (xAt (bs s) i) l = 0) := Lib.hid (by rw [HX.out]; exact h0)
     clear h0
     go_wp2_with fail
     refine (gexp_any _ _ (by omega)).mono ?_
     rintro e w8 ⟨rfl, hb⟩
     rw [Hx2.out _ (by omega)]
     have HL8 := Lib.hid (HL7.out.below hb)
     have HO8 := Lib.hid (HO7.out.below hb)
     have HS8 := Lib.hid (HS7.out.below hb)
     have HR8 := Lib.hid (HR7.out.kept hb)
     have HB8 := Lib.hid (HB7.out.trans (hb.mono HB7.out.size))
     clear hb HL7 HO7 HS7 HR7 HB7 Hx2
     have Hev := Lib.hid (peval_any w8 _ om X HO8.out hbom hxl (by omega))
     go_wp2_with fail
     refine Hev.out.mono ?_
     rintro e w9 ⟨rfl, hb⟩
     have HL9 := Lib.hid (HL8.out.below hb)
     have HO9 := Lib.hid (HO8.out.below hb)
     have HS9 := Lib.hid (HS8.out.below hb)
     have HR9 := Lib.hid (HR8.out.kept hb)
     have HB9 := Lib.hid (HB8.out.trans (hb.mono HB8.out.size))
     clear hb HL8 HO8 HS8 HR8 HB8 Hev
     have hev1 := hev_lt hxl hbom
     have hpw := pw_lt (s.size - 1 - i)
     have Hm := Lib.hid (gmul_any w9 _ _ hpw hev1)
     have hml : gmul (pw (s.size - 1 - i)) (hev X om) < 256 := gmul_lt _ hpw
     obtain ⟨M, hM⟩ : ∃ M, gmul (pw (s.size - 1 - i)) (hev X om) = M := ⟨_, rfl⟩
     rw [hM] at Hm hml
     have HM := Lib.hid hM
     clear hM
     go_wp2_with fail
     refine Hm.out.mono ?_
     rintro e w' ⟨rfl, rfl⟩
     have Hev := Lib.hid (peval_any w9 _ sl X HS9.out hbsl hxl (by omega))
     have hev2 := hev_lt hxl hbsl
     obtain ⟨Z, hZ⟩ : ∃ Z, hev X sl = Z := ⟨_, rfl⟩
     rw [hZ] at Hev hev2
     have HZ : Hid (hev (xAt (bs s) i) sl = Z) := Lib.hid (by rw [HX.out]; exact hZ)
     clear hZ
     go_wp2_with fail
     refine Hev.out.mono ?_
     rintro e w10 ⟨rfl, hb⟩
     have HR10 := Lib.hid (HR9.out.kept hb)
     have HB10 := Lib.hid (HB9.out.trans (hb.mono HB9.out.size))
     clear hb HL9 HO9 HS9 HR9 HB9 Hev Hm
     go_wp2_with fail
     refine (gdiv_any w10 M Z hml hev2).mono ?_
     rintro e w11 ⟨rfl, hb⟩
     rw [gdivR_eq]
     have HR11 := Lib.hid (HR10.out.kept hb)
     have HB11 := Lib.hid (HB10.out.trans (hb.mono HB10.out.size))
     clear hb HR10 HB10
     by_cases hz0 : Z = 0
     ·have hd : decide (Z ≠ 0) = false := by simpa using hz0
      rw [hd]
      have e1 := fixP_none (fixP_fail Hf.out H0.out (HZ.out.trans hz0)) (s.size - (i + 1))
      rw [show i + 1 + (s.size - (i + 1)) = s.size by omega] at e1
      have e2 : rsDecR (bs s) = .tuple #[.string ⟨#[]⟩, .int .i64 0, .int .i64 11] := by
       unfold rsDecR
       rw [Hfx.out, e1]
       rfl
      have He2 := Lib.hid e2
      clear e1 e2 hd hz0
      go_wp2
      go_ret3
      exact ⟨by rw [He2.out]; rfl, HB4.out.trans (HB11.out.mono HB4.out.size)⟩
     ·have hd : decide (Z ≠ 0) = true := by simpa using hz0
      rw [hd]
      have hoi : out[i]? = some (cf out i) := by unfold cf; rw [List.getElem?_eq_getElem (by rw [G1.out]; exact h)]; rfl
      have hc := HR11.out.cell i _ hoi
      have hfr := HR11.out.free i (by rw [G1.out]; exact h)
      have Hadd := Lib.hid (gadd_any w11 (cf out i) (gdv M Z) (cf_lt g2 i) (gdv_lt hml))
      have Hset := Lib.hid (HR11.out.set i (cf out i ^^^ gdv M Z))
      have e1 := fixP_fix Hf.out H0.out (by rw [HZ.out]; exact hz0)
      rw [HZ.out, HX.out, bs_len, HM.out] at e1
      have He1 := Lib.hid e1
      clear hoi hd e1 hz0
      generalize cf out i = x at *
      generalize gdv M Z = y at *
      go_wp2_with (go_at_call 109; refine Hadd.out.mono ?_; rintro e w' ⟨rfl, rfl⟩)
      go_roundw
      case rel => exact ⟨i + 1, q + 1, _, by omega, by go_num, by go_num, He1.out, Hset.out, HB11.out.setCell (p := ⟨w4.heap.size, i, none⟩) (Nat.le_refl _) _⟩
      case measure => simp [intOf]; omega
    ·have h0I : ((hev X l : Int) != 0) = true := by rw [bne_iff_ne]; omega
     have e1 := fixP_skip Hf.out (by rw [HX.out]; exact h0)
     have He1 := Lib.hid e1
     clear h0 e1
     go_wp2
     go_roundw
     case rel => exact ⟨i + 1, q, out, by omega, by go_num, rfl, He1.out, HR7.out, HB7.out⟩
     case measure => simp [intOf]; omega
   ·have hin : i = s.size := by omega
    subst hin
    have G2 := Lib.hid g2
    have hlt4 : s.size ≤ out.length := by have := G1.out; omega
    have hlt5 : out.length ≤ s.size := by have := G1.out; omega
    have Hfin : Hid (rsDec (bs s) = rsFin l (bs s) (some (out, q))) := Lib.hid (by rw [Hfx.out, Hf.out])
    have hcs := run_toStr (Hr.out.bytes (n := s.size) (c := cc) G1.out.symm hc1 hc2) G1.out.symm
    have hdl := dlocate_any wr s (strB out) (by rw [strB_size]; exact G1.out.symm) (by omega)
    rw [bs_strB g2] at hdl
    have Hdl := Lib.hid hdl
    obtain ⟨Al, cl, rfl, m1, m2, m3⟩ := HvL.out
    have hDl : (differ (bs s) out).length ≤ s.size := by have := differ_len (bs s) out; rwa [bs_len] at this
    obtain ⟨D, hD⟩ : ∃ D, differ (bs s) out = D := ⟨_, rfl⟩
    rw [hD] at Hdl hDl
    have HD := Lib.hid hD
    clear g2 hD hdl m3 Hfx HvL HvL5 Hvo5 Hvs5 Hvo Hvs
    go_wp2_with fail
    refine Hdl.out.mono ?_
    rintro e w6 ⟨vD, rfl, hvD, hb⟩
    have HR6 := Lib.hid (Hr.out.kept hb)
    have HB6 := Lib.hid (HBr.out.trans (hb.mono HBr.out.size))
    have HvD := Lib.hid hvD
    obtain ⟨AD, cD, rfl, n1, n2, n3⟩ := hvD
    clear hcs hb n3 Hdl Hr HBr
    go_wp2
    go_loop [28, 151] (fun c x => ∃ k : Nat, k ≤ D.length ∧ x = .int .i64 k ∧ c = .int .i64 k) (fun _ x => D.length - (intOf x).toNat)
    case atStart => exact ⟨0, by omega, rfl, rfl⟩
    case round =>
     obtain ⟨k, hk, rfl, rfl⟩ := hrel
     by_cases h' : k < D.length
     ·have hkI : (k : Int) < D.length := by omega
      obtain ⟨b, o, rfl, hc⟩ := SlAt.cell HvD.out (List.getElem?_eq_getElem h')
      go_wp2_with (go_at_call 111; refine (bin_nil _ _).mono ?_; rintro e w' ⟨rfl, rfl⟩)
      go_round
      case rel => exact ⟨k + 1, by omega, by go_num, by go_num⟩
      case measure => simp [intOf]; omega
     ·have hkn : k = D.length := by omega
      subst hkn
      have hnI : ¬ (D.length : Int) < D.length := by omega
      have hl1 : IntKind.i64.wrap ((l.length : Int) - 1) = (l.length : Int) - 1 := IntWalk.i64_in _ (by omega)
      have hfail : ¬ (q + 1 = l.length ∧ synd out = List.replicate 8 0 ∧ D.length ≤ 4) → rsDecR (bs s) = .tuple #[.string ⟨#[]⟩, .int .i64 0, .int .i64 11] := by
       intro hh
       unfold rsDecR
       rw [Hfin.out]
       unfold rsFin
       simp only
       rw [HD.out, if_neg hh]
      have Hfail := Lib.hid hfail
      clear hfail
      by_cases hq : q + 1 = l.length
      ·have hqI : ((q : Int) != (l.length : Int) - 1) = false := by rw [bne_eq_false_iff_eq]; omega
       have Hq := Lib.hid hq
       have hcs := run_toStr (HR6.out.bytes (n := s.size) (c := cc) G1.out.symm hc1 hc2) G1.out.symm
       have his := rsis_any w6 (strB out) (by rw [strB_size]; omega) (by rw [strB_size]; omega)
       rw [bs_strB G2.out] at his
       have His := Lib.hid his
       clear hq his
       go_wp2_with fail
       refine His.out.mono ?_
       rintro e w7 ⟨rfl, hb⟩
       have HR7 := Lib.hid (HR6.out.kept hb)
       have HB7 := Lib.hid (HB6.out.trans (hb.mono HB6.out.size))
       clear hcs hb His HR6 HB6
       cases hz : zero8 (synd out) with
       | false =>
        have he := Hfail.out (fun hh => by unfold zero8 at hz; rw [decide_eq_false_iff_not] at hz; exact hz hh.2.1)
        have He := Lib.hid he
        clear he hz
        go_wp2
        go_ret3
        exact ⟨by rw [He.out]; rfl, HB4.out.trans (HB7.out.mono HB4.out.size)⟩
       | true =>
        have Hz := Lib.hid hz
        clear hz
        have hrd := dradius_any w7 D.length (by omega)
        by_cases h4 : D.length ≤ 4
        ·have hd4 : decide (D.length ≤ 4) = true := by simpa using h4
         rw [hd4] at hrd
         have Hrd := Lib.hid hrd
         have hcs := run_toStr (HR7.out.bytes (n := s.size) (c := cc) G1.out.symm hc1 hc2) G1.out.symm
         have he : rsDecR (bs s) = .tuple #[.string (strB out), .int .i64 (D.length : Int), .int .i64 0] := by
          unfold rsDecR
          rw [Hfin.out]
          unfold rsFin
          simp only
          have hz := Hz.out
          unfold zero8 at hz
          rw [decide_eq_true_eq] at hz
          rw [HD.out, if_pos ⟨Hq.out, hz, h4⟩]
         have He := Lib.hid he
         clear hrd hd4 he
         go_wp2_with (go_at_call 113; refine Hrd.out.mono ?_; rintro e w' ⟨rfl, rfl⟩)
         go_ret3
         exact ⟨by rw [He.out]; rfl, HB4.out.trans (HB7.out.mono HB4.out.size)⟩
        ·have hd4 : decide (D.length ≤ 4) = false := by simpa using h4
         rw [hd4] at hrd
         have Hrd := Lib.hid hrd
         have he := Hfail.out (fun hh => h4 hh.2.2)
         have He := Lib.hid he
         clear hrd hd4 he
         go_wp2_with (go_at_call 113; refine Hrd.out.mono ?_; rintro e w' ⟨rfl, rfl⟩)
         go_ret3
         exact ⟨by rw [He.out]; rfl, HB4.out.trans (HB7.out.mono HB4.out.size)⟩
      ·have hqI : ((q : Int) != (l.length : Int) - 1) = true := by rw [bne_iff_ne]; omega
       have he := Hfail.out (fun hh => hq hh.1)
       have He := Lib.hid he
       clear hq he
       go_wp2
       go_ret3
       exact ⟨by rw [He.out]; rfl, HB4.out.trans (HB6.out.mono HB4.out.size)⟩

end Go.Proofs.YtnlnmfkmbpihhaaGreatDoor
