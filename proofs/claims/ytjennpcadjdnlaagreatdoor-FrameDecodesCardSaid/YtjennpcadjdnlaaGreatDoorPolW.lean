/-
  WALKS: gfpoly: slices.Clone at []byte, Trim.
  WALKS: gfpoly: Add.
  WALKS: gfpoly: Mul.
  WALKS: gfpoly: Eval, Derivative.
-/
import Derived.Test.YtjennpcadjdnlaaGreatDoorByM
import Derived.Test.YtjennpcadjdnlaaGreatDoorPolA
import Derived.Test.YtjennpcadjdnlaaGreatDoorRangeOwn
import Derived.StillTailTactics
import Derived.Laws.CopyOwn
import Derived.Lib.SliceRun
import Derived.WalkSpells
import Derived.Lib.MinMax
namespace Go.Proofs.YtjennpcadjdnlaaGreatDoor
open Go.RowKit

set_option maxHeartbeats 1000000 in
theorem cloneb_any (w : World) (v : Value) (p : List Nat) (hp : BytesAt w v p) (hl : p.length ≤ 1000000) : Calls Tryz.prog 156 #[v] w fun e w' => ∃ v', e = .returned v' ∧ BytesAt w' v' p ∧ Below w.heap.size w w' := by
  have hp0 := hp
  obtain ⟨A, c, rfl, h1, h2, h3⟩ := hp
  cases A with
  | none =>
    have hn : p = [] := by
      cases p with
      | nil => rfl
      | cons x r =>
        obtain ⟨b, o, u, hA, _⟩ := h3 0 x rfl
        cases hA
    subst hn
    have heq := Lib.run_eql_slice_nil (P := Tryz.prog) w 28 5 none 0 c 0 0 Tryz.underlying28
    clear h3 hp0
    go_enter Tryz.func156, Tryz.ntmps156
    go_wp2
    go_ret
    exact ⟨_, rfl, SlAt.nil w, Below.refl _ _⟩
  | some ad =>
    have heq := Lib.run_eql_slice_nil (P := Tryz.prog) w 28 5 (some ad) p.length c 0 0 Tryz.underlying28
    have hown := own_empty w 5 1
    have hva : VAt (w.alloc (.cells #[] 5)) (.slice (some ad) p.length c) (p.map u8V) := (hp0.below ((Below.refl _ _).alloc (Nat.le_refl _) _)).vAt
    have Hva := Lib.hid hva
    have H3 := Lib.hid h3
    clear h3 hva hp0
    go_enter Tryz.func156, Tryz.ntmps156
    go_wp2_with (at_builtin; refine wpList_appendV _ Tryz.underlying28 Tryz.infoU8 rfl (by omega) (by rfl) _ _ rfl w.heap.size _ 0 [] rfl _ rfl hown (p.map u8V) Hva.out (one_u8s p) (by simpa using hl) (by simp) ?_; intro v' w1 hown1 hg1 hat1 hb1)
    go_ret
    simp only [Nat.zero_add, List.nil_append] at hown1
    exact ⟨v', rfl, BytesAt.of_own hown1, ((Below.refl _ _).alloc (Nat.le_refl _) _).trans hb1⟩

set_option maxHeartbeats 1000000 in
theorem ptrim_any (w : World) (v : Value) (p : List Nat) (hp : BytesAt w v p) (hl : p.length ≤ 1000000) : Calls Tryz.prog 153 #[v] w fun e w' => ∃ v', e = .returned v' ∧ BytesAt w' v' (ptrim p) ∧ Below w.heap.size w w' := by
  have Hp0 := Lib.hid hp
  obtain ⟨A, c, rfl, h1, h2, h3⟩ := hp
  clear h3
  go_enter Tryz.func153, Tryz.ntmps153
  go_wp2
  go_loop [3] (fun x => ∃ k : Nat, k ≤ p.length ∧ x = .int .i64 k ∧ ptrim (p.take k) = ptrim p) (fun x => (intOf x).toNat)
  case atStart => exact ⟨p.length, Nat.le_refl _, rfl, by rw [List.take_length]⟩
  case round =>
    obtain ⟨k, hk, rfl, ht⟩ := hrel
    have Ht := Lib.hid ht
    clear ht
    have hsl := (Hp0.out).take hk
    have hlk : (p.take k).length ≤ 1000000 := by rw [List.length_take]; omega
    have hck := cloneb_any w (.slice A k c) (p.take k) hsl hlk
    have Hck := Lib.hid hck
    clear hsl hck hlk
    by_cases h0 : k = 0
    · subst h0
      have e : ptrim p = p.take 0 := by rw [← Ht.out]; rfl
      have He := Lib.hid e
      clear e
      go_wp2_with (go_at_call 156; refine Hck.out.mono ?_; rintro e w1 ⟨v1, rfl, hv1, hb1⟩)
      go_ret
      exact ⟨v1, rfl, by rw [He.out]; exact hv1, hb1⟩
    · have hkp : k - 1 < p.length := by omega
      have hp1 : p[k - 1]? = some (p[k - 1]'hkp) := List.getElem?_eq_getElem hkp
      obtain ⟨b, o, rfl, hc⟩ := Hp0.out.cell hp1
      have hs1 : IntKind.i64.wrap ((k : Int) - 1) = ((k - 1 : Nat) : Int) := by rw [IntWalk.i64_in _ (by omega)]; omega
      have htk : p.take k = p.take (k - 1) ++ [p[k - 1]'hkp] := by
        have := List.take_add_one (l := p) (i := k - 1)
        rw [hp1, show k - 1 + 1 = k by omega] at this
        exact this
      have hkI : (0 : Int) < k := by omega
      have hkJ : ((k - 1 : Nat) : Int) < p.length := by omega
      generalize p[k - 1]'hkp = x at *
      clear hp1
      by_cases hx : x = 0
      · subst hx
        have hst : ptrim (p.take (k - 1)) = ptrim p := by rw [← Ht.out, htk, ptrim_snoc_zero]
        have Hst := Lib.hid hst
        clear hst htk
        go_wp2
        go_round
        case rel => exact ⟨k - 1, by omega, rfl, Hst.out⟩
        case measure => simp [intOf]; omega
      · have e : ptrim p = p.take k := by rw [← Ht.out, htk, ptrim_snoc_other _ hx]
        have He := Lib.hid e
        have hxI : ((x : Int) == 0) = false := by rw [beq_eq_false_iff_ne]; omega
        clear e htk
        go_wp2_with (go_at_call 156; refine Hck.out.mono ?_; rintro e w1 ⟨v1, rfl, hv1, hb1⟩)
        go_ret
        exact ⟨v1, rfl, by rw [He.out]; exact hv1, hb1⟩

end Go.Proofs.YtjennpcadjdnlaaGreatDoor

namespace Go.Proofs.YtjennpcadjdnlaaGreatDoor
open Go.RowKit

theorem make_u8_max (a b : Nat) (ha : a ≤ 100000) (hb : b ≤ 100000) (w : World) : (Instr.makeSlice 28 (.int .i64 (max (a : Int) b)) (.int .i64 (max (a : Int) b))).run Tryz.prog w = .ok (.slice (some ⟨w.heap.size, 0, none⟩) (max a b) (max a b)) (w.alloc (.cells (arrB (List.replicate (max a b) 0)) 5)) := by
  have e : max (a : Int) b = ((max a b : Nat) : Int) := by omega
  rw [e]
  exact make_u8 _ _ (Nat.le_refl _) (by omega) w
set_option maxRecDepth 100000 in
set_option maxHeartbeats 1000000 in
theorem padd_any (w : World) (v u : Value) (p q : List Nat) (hp : BytesAt w v p) (hq : BytesAt w u q) (bp : Bytes p) (bq : Bytes q) (hl : p.length ≤ 100000) (hm : q.length ≤ 100000) : Calls Tryz.prog 158 #[v, u] w fun e w' => ∃ v', e = .returned v' ∧ BytesAt w' v' (padd p q) ∧ Below w.heap.size w w' := by
  have Hp0 := Lib.hid hp
  have Hq0 := Lib.hid hq
  obtain ⟨A, c, rfl, h1, h2, h3⟩ := hp
  obtain ⟨A', c', rfl, h1', h2', h3'⟩ := hq
  clear h3 h3'
  have hmk := make_u8_max p.length q.length hl hm
  obtain ⟨n, hn⟩ : ∃ n, max p.length q.length = n := ⟨_, rfl⟩
  rw [hn] at hmk
  have hnp : p.length ≤ n := by omega
  have hnq : q.length ≤ n := by omega
  have hnl : n ≤ 100000 := by omega
  have Hn := Lib.hid hn
  clear hn
  have hB0 : Below w.heap.size w (w.alloc (.cells (arrB (List.replicate n 0)) 5)) := (Below.refl _ _).alloc (Nat.le_refl _) _
  obtain ⟨w2, hcopy, hK, hB⟩ := run_copyB (W := w.alloc (.cells (arrB (List.replicate n 0)) 5)) (k := n) 3 (U8B.new w (List.replicate n 0)) (Hp0.out.below hB0) rfl hnp (by simp)
  have HB := Lib.hid (hB w.heap.size w hB0 (Nat.le_refl _))
  have hstart : p ++ (List.replicate n 0).drop p.length = (List.range n).map fun j => if j < 0 then cf p j ^^^ cf q j else cf p j := by
    refine List.ext_getElem? fun j => ?_
    rw [List.getElem?_map]
    by_cases hj : j < n
    · rw [List.getElem?_range hj, List.getElem?_append]
      split
      · rename_i h
        simp [cf, List.getElem?_eq_getElem h]
      · rename_i h
        rw [List.drop_replicate, List.getElem?_replicate, if_pos (by omega)]
        simp [cf_big (Nat.le_of_not_lt h)]
    · rw [List.getElem?_eq_none (by simp; omega), List.getElem?_eq_none (by simpa using hj)]
      rfl
  rw [hstart] at hK
  have HK := Lib.hid hK
  clear hK hB hB0 hstart
  go_enter Tryz.func158, Tryz.ntmps158
  go_wp2
  go_loopw [18] (fun x wr => ∃ k : Nat, k ≤ q.length ∧ x = .int .i64 k ∧ U8B wr w.heap.size ((List.range n).map fun j => if j < k then cf p j ^^^ cf q j else cf p j) ∧ Below w.heap.size w wr) (fun x _ => q.length - (intOf x).toNat)
  case atStart => exact ⟨0, by omega, rfl, HK.out, HB.out⟩
  case round =>
    obtain ⟨k, hk, rfl, hb, hB⟩ := hrel
    have Hb := Lib.hid hb
    have HBr := Lib.hid hB
    clear hb hB
    by_cases h : k < q.length
    · have hkI : (k : Int) < q.length := by omega
      have hkn : (k : Int) < n := by omega
      have hkN : k < n := by omega
      have hqk : q[k]? = some (cf q k) := by unfold cf; rw [List.getElem?_eq_getElem h]; rfl
      have hLk : ((List.range n).map fun j => if j < k then cf p j ^^^ cf q j else cf p j)[k]? = some (cf p k) := by rw [List.getElem?_map, List.getElem?_range hkN]; simp
      obtain ⟨b, o, rfl, hc⟩ := (Hq0.out.below HBr.out).cell hqk
      have hc1 := Hb.out.cell hLk
      have hf1 := Blk.frozen Hb.out k
      have Hadd := Lib.hid (fun W => gadd_any W (cf p k) (cf q k) (cf_lt bp k) (cf_lt bq k))
      have hset : ((List.range n).map fun j => if j < k then cf p j ^^^ cf q j else cf p j).set k (cf p k ^^^ cf q k) = (List.range n).map fun j => if j < k + 1 then cf p j ^^^ cf q j else cf p j := by
        refine List.ext_getElem? fun j => ?_
        rw [List.getElem?_set, List.getElem?_map, List.getElem?_map]
        by_cases hj : j < n
        · rw [List.getElem?_range hj]
          by_cases hjk : k = j
          · subst hjk
            simp [hj]
          · rw [if_neg hjk]
            by_cases h1 : j < k
            · simp [h1, Nat.lt_succ_of_lt h1]
            · have h2 : ¬ j < k + 1 := by omega
              simp [h1, h2]
        · rw [List.getElem?_eq_none (by simpa using hj)]
          rw [if_neg (by omega)]
          rfl
      have Hset := Lib.hid (hset ▸ U8B.set Hb.out k (cf p k ^^^ cf q k))
      clear hset hLk hqk
      generalize cf p k = x at *
      generalize cf q k = y at *
      go_wp2
      go_still_tail 12, (by kernel_rfl)
      still_call (still_of (Hadd.out _))
      repeat still_step
      refine wpStill_nil ?_
      go_wp2
      go_roundw
      case rel => exact ⟨k + 1, by omega, by go_num, Hset.out, (HBr.out.setCell (p := ⟨w.heap.size, k, none⟩) (Nat.le_refl _) _).drew⟩
      case measure => simp [intOf]; omega
    · have hkn : k = q.length := by omega
      subst hkn
      have e : ((List.range n).map fun j => if j < q.length then cf p j ^^^ cf q j else cf p j) = paddR p q := by
        unfold paddR
        rw [Hn.out]
        refine List.map_congr_left fun j _ => ?_
        split
        · rfl
        · rename_i h
          rw [cf_big (p := q) (by omega)]
          simp
      have hl2 : (paddR p q).length = n := by rw [paddR_len, Hn.out]
      have hv : BytesAt wr (.slice (some ⟨w.heap.size, 0, none⟩) n n) (paddR p q) := by
        rw [← e]
        exact U8B.bytes Hb.out (by simp) (Nat.le_refl _) (by omega)
      have Ht := Lib.hid (ptrim_any wr _ (paddR p q) hv (by omega))
      clear e hl2 hv
      go_wp2_with (go_at_call 153; refine Ht.out.mono ?_; rintro e w1 ⟨v1, rfl, hv1, hb1⟩)
      go_ret
      exact ⟨v1, rfl, hv1, HBr.out.trans (hb1.mono HBr.out.size)⟩

end Go.Proofs.YtjennpcadjdnlaaGreatDoor

namespace Go.Proofs.YtjennpcadjdnlaaGreatDoor
open Go.RowKit

theorem make_u8_sum (a b : Nat) (ha : a ≤ 100000) (hb : b ≤ 100000) (w : World) : (Instr.makeSlice 28 (.int .i64 ((a : Int) + b)) (.int .i64 ((a : Int) + b))).run Tryz.prog w = .ok (.slice (some ⟨w.heap.size, 0, none⟩) (a + b) (a + b)) (w.alloc (.cells (arrB (List.replicate (a + b) 0)) 5)) := by
  have e : (a : Int) + b = ((a + b : Nat) : Int) := by omega
  rw [e]
  exact make_u8 _ _ (Nat.le_refl _) (by omega) w
/-- A product's cells, i rows and k places of the next row done. -/
def mulL (p q : List Nat) (n i k : Nat) : List Nat := (List.range n).map fun m => cv p q i m ^^^ (if i ≤ m ∧ m < i + k then gmul (cf p i) (cf q (m - i)) else 0)
theorem mulL_len (p q : List Nat) (n i k : Nat) : (mulL p q n i k).length = n := by unfold mulL; simp
theorem mulL_get {p q : List Nat} {n i k : Nat} (h : i + k < n) : (mulL p q n i k)[i + k]? = some (cv p q i (i + k)) := by
  unfold mulL
  rw [List.getElem?_map, List.getElem?_range h]
  simp
theorem mulL_set {p q : List Nat} {n i k : Nat} (h : i + k < n) : (mulL p q n i k).set (i + k) (cv p q i (i + k) ^^^ gmul (cf p i) (cf q k)) = mulL p q n i (k + 1) := by
  refine List.ext_getElem? fun j => ?_
  rw [List.getElem?_set, mulL_len]
  unfold mulL
  rw [List.getElem?_map, List.getElem?_map]
  by_cases hj : j < n
  · rw [List.getElem?_range hj]
    by_cases hjk : i + k = j
    · subst hjk
      have e : i + k - i = k := by omega
      simp [hj, e]
    · rw [if_neg hjk]
      by_cases h1 : i ≤ j ∧ j < i + k
      · have h2 : i ≤ j ∧ j < i + (k + 1) := by omega
        simp only [Option.map_some, if_pos h1, if_pos h2]
      · have h2 : ¬ (i ≤ j ∧ j < i + (k + 1)) := by omega
        simp only [Option.map_some, if_neg h1, if_neg h2]
  · rw [List.getElem?_eq_none (by simpa using hj), if_neg (by omega)]
    rfl
theorem mulL_row (p q : List Nat) (n i : Nat) : mulL p q n i q.length = mulL p q n (i + 1) 0 := by
  unfold mulL
  refine List.map_congr_left fun m _ => ?_
  have e : ¬ (i + 1 ≤ m ∧ m < i + 1 + 0) := by omega
  rw [if_neg e]
  show _ = (cv p q i m ^^^ (if i ≤ m then gmul (cf p i) (cf q (m - i)) else 0)) ^^^ 0
  rw [Nat.xor_zero]
  by_cases h1 : i ≤ m
  · by_cases h2 : m < i + q.length
    · rw [if_pos ⟨h1, h2⟩, if_pos h1]
    · rw [if_neg (by omega), if_pos h1, cf_big (p := q) (by omega), gmul_zero_right]
  · rw [if_neg (by omega), if_neg h1]
theorem mulL_zero (p q : List Nat) (n : Nat) : List.replicate n 0 = mulL p q n 0 0 := by
  unfold mulL
  refine List.ext_getElem? fun j => ?_
  rw [List.getElem?_map, List.getElem?_replicate]
  by_cases hj : j < n
  · rw [if_pos hj, List.getElem?_range hj]
    have e : ¬ (0 ≤ j ∧ j < 0 + 0) := by omega
    simp [cv]
  · rw [if_neg hj, List.getElem?_eq_none (by simpa using hj)]
    rfl
theorem mulL_end (p q : List Nat) : mulL p q (p.length + q.length) p.length 0 = pmulR p q := by
  unfold mulL pmulR
  refine List.map_congr_left fun m _ => ?_
  rw [if_neg (by omega), Nat.xor_zero]

set_option maxRecDepth 100000 in
set_option maxHeartbeats 2000000 in
theorem pmul_any (w : World) (v u : Value) (p q : List Nat) (hp : BytesAt w v p) (hq : BytesAt w u q) (bp : Bytes p) (bq : Bytes q) (hl : p.length ≤ 100000) (hm : q.length ≤ 100000) : Calls Tryz.prog 90 #[v, u] w fun e w' => ∃ v', e = .returned v' ∧ BytesAt w' v' (pmul p q) ∧ Below w.heap.size w w' := by
  have Hp0 := Lib.hid hp
  have Hq0 := Lib.hid hq
  obtain ⟨A, c, rfl, h1, h2, h3⟩ := hp
  obtain ⟨A', c', rfl, h1', h2', h3'⟩ := hq
  clear h3 h3'
  have hmk := make_u8_sum p.length q.length hl hm
  obtain ⟨n, hn⟩ : ∃ n, p.length + q.length = n := ⟨_, rfl⟩
  rw [hn] at hmk
  have hnl : n ≤ 200000 := by omega
  have HB0 := Lib.hid ((Below.refl w.heap.size w).alloc (Nat.le_refl _) (.cells (arrB (List.replicate n 0)) 5))
  have hK0 : U8B (w.alloc (.cells (arrB (List.replicate n 0)) 5)) w.heap.size (mulL p q n 0 0) := by
    have := U8B.new w (List.replicate n 0)
    rw [← mulL_zero]
    exact this
  have HK0 := Lib.hid hK0
  clear hK0
  have hn1 : p.length + q.length ≤ n := by omega
  have Hn := Lib.hid hn
  clear hn
  go_enter Tryz.func90, Tryz.ntmps90
  go_wp2
  go_loopw [16] (fun x wr => ∃ i : Nat, i ≤ p.length ∧ x = .int .i64 i ∧ U8B wr w.heap.size (mulL p q n i 0) ∧ Below w.heap.size w wr) (fun x _ => p.length - (intOf x).toNat)
  case atStart => exact ⟨0, by omega, rfl, HK0.out, HB0.out⟩
  case round =>
    obtain ⟨i, hi, rfl, hb, hB⟩ := hrel
    have Hb := Lib.hid hb
    have HBr := Lib.hid hB
    clear hb hB
    by_cases h : i < p.length
    · have hiI : (i : Int) < p.length := by omega
      obtain ⟨wo, hwo⟩ : ∃ wo : World, wo = wr := ⟨_, rfl⟩
      have Hwo := Lib.hid hwo
      clear hwo
      go_wp2
      go_loopw [21] (fun x wr => ∃ k : Nat, k ≤ q.length ∧ x = .int .i64 k ∧ U8B wr w.heap.size (mulL p q n i k) ∧ Below w.heap.size w wr) (fun x _ => q.length - (intOf x).toNat)
      case atStart => exact ⟨0, by omega, rfl, Hb.out, HBr.out⟩
      case round =>
        obtain ⟨k, hk, rfl, hb, hB⟩ := hrel
        clear Hb HBr Hwo
        have Hb := Lib.hid hb
        have HBr := Lib.hid hB
        clear hb hB
        by_cases h' : k < q.length
        · have hkI : (k : Int) < q.length := by omega
          have hpi : p[i]? = some (cf p i) := by unfold cf; rw [List.getElem?_eq_getElem h]; rfl
          have hqk : q[k]? = some (cf q k) := by unfold cf; rw [List.getElem?_eq_getElem h']; rfl
          obtain ⟨b, o, rfl, hc⟩ := (Hq0.out.below HBr.out).cell hqk
          obtain ⟨b', o', rfl, hc'⟩ := (Hp0.out.below HBr.out).cell hpi
          have hik : i + k < n := by omega
          have hc1 := Hb.out.cell (mulL_get (p := p) (q := q) hik)
          have hf1 := Blk.frozen Hb.out (i + k)
          have Hmul := Lib.hid (fun W => gmul_any W (cf p i) (cf q k) (cf_lt bp i) (cf_lt bq k))
          have Hadd := Lib.hid (fun W => gadd_any W (cv p q i (i + k)) (gmul (cf p i) (cf q k)) (cv_lt bp _ _) (gmul_lt _ (cf_lt bp i)))
          have Hset := Lib.hid (mulL_set (p := p) (q := q) hik ▸ U8B.set Hb.out (i + k) (cv p q i (i + k) ^^^ gmul (cf p i) (cf q k)))
          clear hpi hqk
          generalize gmul (cf p i) (cf q k) = z at *
          generalize cf p i = x at *
          generalize cf q k = y at *
          generalize cv p q i (i + k) = s at *
          have hs1 : IntKind.i64.wrap ((i : Int) + k) = (i : Int) + k := IntWalk.i64_in _ (by omega)
          have hs2 : ((i : Int) + k).toNat = i + k := by omega
          have hs3 : (0 : Int) ≤ (i : Int) + k := by omega
          have hs4 : (i : Int) + k < n := by omega
          go_wp2
          go_still_tail 21, (by kernel_rfl)
          still_call (still_of (Hmul.out _))
          repeat still_step
          still_call (still_of (Hadd.out _))
          repeat still_step
          refine wpStill_nil ?_
          go_wp2
          clear hs1 hs2 hs3 hs4
          go_roundw
          case rel => exact ⟨k + 1, by omega, by go_num, Hset.out, (HBr.out.setCell (p := ⟨w.heap.size, i + k, none⟩) (Nat.le_refl _) _).drew⟩
          case measure => simp [intOf]; omega
        · have hkn : k = q.length := by omega
          subst hkn
          have Hb2 := Lib.hid (mulL_row p q n i ▸ Hb.out)
          clear Hb
          go_wp2
          go_roundw
          case rel => exact ⟨i + 1, by omega, by go_num, Hb2.out, HBr.out⟩
          case measure => simp [intOf]; omega
    · have hin : i = p.length := by omega
      subst hin
      have hl2 : (pmulR p q).length = n := by rw [pmulR_len, Hn.out]
      have hv : BytesAt wr (.slice (some ⟨w.heap.size, 0, none⟩) n n) (pmulR p q) := by
        rw [← mulL_end, Hn.out]
        exact U8B.bytes Hb.out (by rw [mulL_len]) (Nat.le_refl _) (by omega)
      have Ht := Lib.hid (ptrim_any wr _ (pmulR p q) hv (by omega))
      clear hl2 hv
      go_wp2_with (go_at_call 153; refine Ht.out.mono ?_; rintro e w1 ⟨v1, rfl, hv1, hb1⟩)
      go_ret
      exact ⟨v1, rfl, hv1, HBr.out.trans (hb1.mono HBr.out.size)⟩

end Go.Proofs.YtjennpcadjdnlaaGreatDoor

namespace Go.Proofs.YtjennpcadjdnlaaGreatDoor
open Go.RowKit

theorem drop_last {p : List Nat} {k : Nat} (h : k < p.length) : p.drop (p.length - (k + 1)) = cf p (p.length - 1 - k) :: p.drop (p.length - k) := by
  have e : p.length - (k + 1) < p.length := by omega
  rw [List.drop_eq_getElem_cons e, show p.length - (k + 1) + 1 = p.length - k by omega, show p.length - 1 - k = p.length - (k + 1) by omega]
  unfold cf
  rw [List.getElem?_eq_getElem e]
  rfl
set_option maxRecDepth 100000 in
set_option maxHeartbeats 1000000 in
theorem peval_any (w : World) (v : Value) (p : List Nat) (x : Nat) (hp : BytesAt w v p) (bp : Bytes p) (hx : x < 256) (hl : p.length ≤ 100000) : Calls Tryz.prog 94 #[v, .int .u8 (x : Int)] w fun e w' => e = .returned (.int .u8 (hev x p : Nat)) ∧ Below w.heap.size w w' := by
  have Hp0 := Lib.hid hp
  obtain ⟨A, c, rfl, h1, h2, h3⟩ := hp
  clear h3
  go_enter Tryz.func94, Tryz.ntmps94
  go_wp2
  go_loopw [5, 9] (fun s y wr => ∃ k : Nat, k ≤ p.length ∧ y = .int .i64 k ∧ s = .int .u8 (hev x (p.drop (p.length - k)) : Nat) ∧ Below w.heap.size w wr) (fun _ y _ => p.length - (intOf y).toNat)
  case atStart => exact ⟨0, by omega, rfl, by rw [Nat.sub_zero, List.drop_length]; rfl, Below.refl _ _⟩
  case round =>
    obtain ⟨k, hk, rfl, rfl, hB⟩ := hrel
    have HBr := Lib.hid hB
    clear hB
    by_cases h : k < p.length
    · have hkI : (k : Int) < p.length := by omega
      have hpk : p[p.length - 1 - k]? = some (cf p (p.length - 1 - k)) := by unfold cf; rw [List.getElem?_eq_getElem (by omega)]; rfl
      obtain ⟨b, o, rfl, hc⟩ := (Hp0.out.below HBr.out).cell hpk
      have hb1 : hev x (p.drop (p.length - k)) < 256 := hev_lt hx fun y hy => bp y (List.mem_of_mem_drop hy)
      have Hmul := Lib.hid (fun W => gmul_any W _ x hb1 hx)
      have Hadd := Lib.hid (fun W => gadd_any W _ (cf p (p.length - 1 - k)) (gmul_lt x hb1) (cf_lt bp _))
      have hst : hev x (p.drop (p.length - (k + 1))) = gmul (hev x (p.drop (p.length - k))) x ^^^ cf p (p.length - 1 - k) := by rw [drop_last h]; rfl
      have Hst := Lib.hid hst
      clear hst hpk hb1
      have hs1 : IntKind.i64.wrap ((p.length : Int) - 1) = (p.length : Int) - 1 := IntWalk.i64_in _ (by omega)
      have hs2 : IntKind.i64.wrap ((p.length : Int) - 1 - k) = (p.length : Int) - 1 - k := IntWalk.i64_in _ (by omega)
      have hs3 : ((p.length : Int) - 1 - k).toNat = p.length - 1 - k := by omega
      have hs4 : (0 : Int) ≤ (p.length : Int) - 1 - k := by omega
      have hs5 : (p.length : Int) - 1 - k < p.length := by omega
      have hs6 : (k : Int) ≤ (p.length : Int) - 1 := by omega
      generalize cf p (p.length - 1 - k) = y at *
      go_wp2
      go_still_tail 12, (by kernel_rfl)
      still_call (still_of (Hmul.out _))
      repeat still_step
      still_call (still_of (Hadd.out _))
      repeat still_step
      refine wpStill_nil ?_
      go_wp2
      clear hs1 hs2 hs3 hs4 hs5 hs6
      go_roundw
      case rel => exact ⟨k + 1, by omega, by go_num, by rw [Hst.out], HBr.out.drew⟩
      case measure => simp [intOf]; omega
    · have hkn : k = p.length := by omega
      subst hkn
      have e : p.drop (p.length - p.length) = p := by rw [Nat.sub_self]; rfl
      have He := Lib.hid e
      clear e
      go_wp2
      go_ret
      exact ⟨ret_num (by rw [He.out]), HBr.out⟩

/-- The first k coefficients of a derivative. -/
def derL (p : List Nat) (k : Nat) : List Nat := (List.range k).map fun i => if i % 2 = 0 then cf p (i + 1) else 0
theorem derL_snoc (p : List Nat) (k : Nat) : derL p k ++ [if k % 2 = 0 then cf p (k + 1) else 0] = derL p (k + 1) := by
  unfold derL
  rw [List.range_succ, List.map_append]
  rfl
set_option maxRecDepth 100000 in
set_option maxHeartbeats 1000000 in
theorem pder_any (w : World) (v : Value) (p : List Nat) (hp : BytesAt w v p) (hl : p.length ≤ 100000) : Calls Tryz.prog 93 #[v] w fun e w' => ∃ v', e = .returned v' ∧ BytesAt w' v' (pder p) ∧ Below w.heap.size w w' := by
  have Hp0 := Lib.hid hp
  obtain ⟨A, c, rfl, h1, h2, h3⟩ := hp
  clear h3
  go_enter Tryz.func93, Tryz.ntmps93
  go_wp2
  go_loopw [3, 4] (fun s y wr => ∃ k : Nat, k ≤ p.length - 1 ∧ y = .int .i64 ((k + 1 : Nat) : Int) ∧ wr.ownsRow w.heap.size 5 1 s k ((derL p k).map u8V) ∧ Below w.heap.size w wr) (fun _ y _ => p.length - (intOf y).toNat)
  case atStart => exact ⟨0, by omega, rfl, World.ownsRow_nil _ _ _ _, Below.refl _ _⟩
  case round =>
    obtain ⟨k, hk, rfl, ho, hB⟩ := hrel
    have HBr := Lib.hid hB
    have Ho := Lib.hid ho
    clear hB ho
    by_cases h : k + 1 < p.length
    · have hkI : ((k + 1 : Nat) : Int) < p.length := by omega
      have hpk : p[k + 1]? = some (cf p (k + 1)) := by unfold cf; rw [List.getElem?_eq_getElem (by omega)]; rfl
      obtain ⟨b, o, rfl, hc⟩ := (Hp0.out.below HBr.out).cell hpk
      have Hsn := Lib.hid (derL_snoc p k)
      have hk9 : k ≤ 900000 := by omega
      have hBz := HBr.out.size
      by_cases hk2 : k % 2 = 0
      · have hmod : (((k + 1 : Nat) : Int) % 2 == 1) = true := by rw [beq_iff_eq]; omega
        have Hk2 := Lib.hid hk2
        clear hpk hk2
        go_wp2_with (at_builtin; refine wpList_app1 rfl _ _ rfl rfl rfl Ho.out hk9 hBz ?_; intro v1 w1 ho1 hb1)
        go_roundw
        case rel =>
          refine ⟨k + 1, by omega, by go_num, ?_, HBr.out.trans hb1⟩
          rw [← Hsn.out, if_pos Hk2.out]
          exact ho1
        case measure => simp [intOf]; omega
      · have hmod : (((k + 1 : Nat) : Int) % 2 == 1) = false := by rw [beq_eq_false_iff_ne]; omega
        have Hk2 := Lib.hid hk2
        clear hpk hk2
        go_wp2_with (at_builtin; refine wpList_app1 (x := 0) rfl _ _ rfl rfl rfl Ho.out hk9 hBz ?_; intro v1 w1 ho1 hb1)
        go_roundw
        case rel =>
          refine ⟨k + 1, by omega, by go_num, ?_, HBr.out.trans hb1⟩
          rw [← Hsn.out, if_neg Hk2.out]
          exact ho1
        case measure => simp [intOf]; omega
    · have hkn : k = p.length - 1 := by omega
      have hlen : (derL p k).length = k := by unfold derL; simp
      have e : pder p = ptrim (derL p k) := by rw [hkn]; rfl
      have Ht := Lib.hid (ptrim_any wr _ (derL p k) (BytesAt.of_own Ho.out) (by omega))
      have He := Lib.hid e
      have hI : ¬ ((k + 1 : Nat) : Int) < p.length := by omega
      clear hkn hlen e
      go_wp2_with (go_at_call 153; refine Ht.out.mono ?_; rintro e w1 ⟨v1, rfl, hv1, hb1⟩)
      go_ret
      exact ⟨v1, rfl, by rw [He.out]; exact hv1, HBr.out.trans (hb1.mono HBr.out.size)⟩

end Go.Proofs.YtjennpcadjdnlaaGreatDoor
