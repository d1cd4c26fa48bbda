/-
  WALKS: the reference's Generator and Encode of the outer code, at eight parity symbols.
-/
import Derived.Test.YtbeooijgkbkniaaGreatDoorRfD
namespace Go.Proofs.YtbeooijgkbkniaaGreatDoor
open Go.RowKit

/-- The reference's generator: one factor more. -/
def gst1 (g : List Nat) (k : Nat) (l : List Nat) : List Nat := l.set (k + 1) (cf l (k + 1) ^^^ cf g k)
def gst2 (g : List Nat) (c k : Nat) (l : List Nat) : List Nat := l.set k (cf l k ^^^ gmul (cf g k) c)
def gnx (g : List Nat) (c : Nat) : Nat → List Nat
  | 0 => List.replicate (g.length + 1) 0
  | k + 1 => gst2 g c k (gst1 g k (gnx g c k))
def genR : Nat → List Nat
  | 0 => [1]
  | i + 1 => gnx (genR i) (pw i) (genR i).length
theorem gnx_len (g : List Nat) (c : Nat) : ∀ k, (gnx g c k).length = g.length + 1
  | 0 => by unfold gnx; rw [List.length_replicate]
  | k + 1 => by unfold gnx gst2 gst1; rw [List.length_set, List.length_set, gnx_len g c k]
theorem set_bytes {l : List Nat} (h : Bytes l) (i : Nat) {x : Nat} (hx : x < 256) : Bytes (l.set i x) := fun b hb => by
  rcases List.mem_or_eq_of_mem_set hb with hb | rfl
  · exact h b hb
  · exact hx
theorem gst1_bytes {g l : List Nat} (hg : Bytes g) (h : Bytes l) (k : Nat) : Bytes (gst1 g k l) := set_bytes h _ (xor_lt (cf_lt h _) (cf_lt hg _))
theorem gnx_bytes {g : List Nat} (hg : Bytes g) (c : Nat) : ∀ k, Bytes (gnx g c k)
  | 0 => fun b hb => by
    have := List.eq_of_mem_replicate hb
    omega
  | k + 1 => by
    have h1 := gst1_bytes hg (gnx_bytes hg c k) k
    exact set_bytes h1 _ (xor_lt (cf_lt h1 _) (gmul_lt _ (cf_lt hg _)))
theorem genR_len : ∀ i, (genR i).length = i + 1
  | 0 => rfl
  | i + 1 => by unfold genR; rw [gnx_len, genR_len i]
theorem genR_bytes : ∀ i, Bytes (genR i)
  | 0 => by decide
  | i + 1 => gnx_bytes (genR_bytes i) _ _
theorem genR_8 : genR 8 = G8 := by decide +kernel

set_option maxRecDepth 100000 in
set_option maxHeartbeats 8000000 in
theorem rgen_any (w : World) : Calls Tryz.prog 111 #[.int .i64 8] w fun e w' => ∃ v, e = .returned (.tuple #[v, .int .i64 0]) ∧ BytesAt w' v G8 ∧ Below w.heap.size w w' := by
  have HK0 : Hid (BytesAt (w.alloc (.cells #[.int .u8 1] 5)) (.slice (some ⟨w.heap.size, 0, none⟩) 1 1) (genR 0)) := Lib.hid (BytesAt.one w 1)
  have HB0 := Lib.hid ((Below.refl w.heap.size w).alloc (Nat.le_refl _) (.cells #[.int .u8 1] 5))
  go_enter Tryz.func111, Tryz.ntmps111
  go_wp2
  go_loopw [4, 5] (fun v x wr => ∃ i : Nat, i ≤ 8 ∧ x = .int .i64 (i : Int) ∧ BytesAt wr v (genR i) ∧ Below w.heap.size w wr) (fun _ x _ => 8 - (intOf x).toNat)
  case atStart => exact ⟨0, by omega, rfl, HK0.out, HB0.out⟩
  case round =>
    obtain ⟨i, hi, rfl, hv, hB⟩ := hrel
    obtain ⟨wo, rfl⟩ : ∃ x, x = wr := ⟨_, rfl⟩
    clear HK0 HB0
    have HBr := Lib.hid hB
    clear hB
    by_cases h : i < 8
    · have hiI : (i : Int) < 8 := by omega
      have Hgl := Lib.hid (genR_len i)
      have Hgb := Lib.hid (genR_bytes i)
      have Hnx : Hid (gnx (genR i) (pw i) (genR i).length = genR (i + 1)) := Lib.hid rfl
      obtain ⟨g, hg⟩ : ∃ g, genR i = g := ⟨_, rfl⟩
      rw [hg] at hv Hgl Hgb Hnx
      clear hg
      have Hv := Lib.hid hv
      obtain ⟨A, c, rfl, h1, h2, h3⟩ := hv
      clear h3
      have hgl9 : g.length ≤ 9 := by have := Hgl.out; omega
      have hmk : ∀ W : World, (Instr.makeSlice 37 (.int .i64 ((g.length : Int) + 1)) (.int .i64 ((g.length : Int) + 1))).run Tryz.prog W = .ok (.slice (some ⟨W.heap.size, 0, none⟩) (g.length + 1) (g.length + 1)) (W.alloc (.cells (arrB (List.replicate (g.length + 1) 0)) 5)) := make_u8 (g.length + 1) (g.length + 1) (Nat.le_refl _) (by omega)
      have HN0 : Hid (U8B (wo.alloc (.cells (arrB (List.replicate (g.length + 1) 0)) 5)) wo.heap.size (gnx g (pw i) 0)) := Lib.hid (U8B.new wo _)
      have HA0 := Lib.hid ((Below.refl wo.heap.size wo).alloc (Nat.le_refl _) (.cells (arrB (List.replicate (g.length + 1) 0)) 5))
      go_wp2
      clear hmk
      go_loopw [7] (fun x wx => ∃ k : Nat, k ≤ g.length ∧ x = .int .i64 (k : Int) ∧ U8B wx wo.heap.size (gnx g (pw i) k) ∧ Below wo.heap.size wo wx) (fun x _ => g.length - (intOf x).toNat)
      case atStart => exact ⟨0, by omega, rfl, HN0.out, HA0.out⟩
      case round =>
        obtain ⟨k, hk, rfl, hn, hb⟩ := hrel
        clear HN0 HA0
        have Hn := Lib.hid hn
        have Hb := Lib.hid hb
        clear hn hb
        by_cases h' : k < g.length
        · have hkI : (k : Int) < g.length := by omega
          have hgk : g[k]? = some (cf g k) := by unfold cf; rw [List.getElem?_eq_getElem h']; rfl
          obtain ⟨gb, go, rfl, hcg⟩ := (Hv.out.below Hb.out).cell hgk
          have hlen := gnx_len g (pw i) k
          have hbn := gnx_bytes Hgb.out (pw i) k
          have Hst : Hid (gst2 g (pw i) k (gst1 g k (gnx g (pw i) k)) = gnx g (pw i) (k + 1)) := Lib.hid rfl
          obtain ⟨l, hl⟩ : ∃ l, gnx g (pw i) k = l := ⟨_, rfl⟩
          rw [hl] at Hn hlen hbn Hst
          clear hl
          have hc1 := Hn.out.cell (i := k + 1) (x := cf l (k + 1)) (by unfold cf; rw [List.getElem?_eq_getElem (by omega)]; rfl)
          have hf1 := Blk.frozen Hn.out (k + 1)
          have hgl2 : cf g k < 256 := cf_lt Hgb.out k
          have hx1 := u8_xor (cf_lt hbn (k + 1)) hgl2
          have Hs1 := Lib.hid (U8B.set Hn.out (k + 1) (cf l (k + 1) ^^^ cf g k))
          have hs1 : IntKind.i64.wrap ((k : Int) + 1) = (k : Int) + 1 := IntWalk.i64_in _ (by omega)
          have hs2 : ((k : Int) + 1).toNat = k + 1 := by omega
          have hs3 : (0 : Int) ≤ (k : Int) + 1 := by omega
          have hs4 : (k : Int) + 1 < (g.length : Int) + 1 := by omega
          have Hgk := Lib.hid hgk
          have Hlen := Lib.hid hlen
          have Hbn := Lib.hid hbn
          have HX1 := Lib.hid ((Hb.out.setCell (p := ⟨wo.heap.size, k + 1, none⟩) (Nat.le_refl _) (.int .u8 ((cf l (k + 1) ^^^ cf g k : Nat) : Int))).drew)
          clear hgk hlen hbn
          go_wp2
          go_still_tail 14, (by kernel_rfl)
          go_upto_region 12 with fail
          have HN1 : Hid (U8B (wr.setCell ⟨wo.heap.size, k + 1, none⟩ (.int .u8 ((cf l (k + 1) ^^^ cf g k : Nat) : Int))).drew wo.heap.size (gst1 g k l)) := Lib.hid (U8B.drew Hs1.out)
          have hcg1 := (Hv.out.below HX1.out).cell Hgk.out
          obtain ⟨gb', go', e9, hcg1⟩ := hcg1
          cases e9
          have hg1b := gst1_bytes Hgb.out Hbn.out k
          have hg1l : (gst1 g k l).length = g.length + 1 := by unfold gst1; rw [List.length_set]; exact Hlen.out
          clear hc1 hf1 hx1 hs1 hs2 hs3 hs4 Hs1 Hn Hb hcg
          generalize (wr.setCell ⟨wo.heap.size, k + 1, none⟩ (.int .u8 ((cf l (k + 1) ^^^ cf g k : Nat) : Int))).drew = wx at *
          generalize gst1 g k l = l1 at *
          have hc2 := HN1.out.cell (i := k) (x := cf l1 k) (by unfold cf; rw [List.getElem?_eq_getElem (by omega)]; rfl)
          have hf2 := Blk.frozen HN1.out k
          have Hpw := Lib.hid (fun W => r7power_any W i (by omega))
          have hpl := pw_lt i
          have Htm := Lib.hid (fun W => r7times_any W (cf g k) (pw i) hgl2 hpl)
          have hx2 := u8_xor (cf_lt hg1b k) (gmul_lt (pw i) hgl2)
          have Hs2 := Lib.hid (U8B.set HN1.out k (cf l1 k ^^^ gmul (cf g k) (pw i)))
          have hkN : (k : Int) < (g.length : Int) + 1 := by omega
          have HX2 := Lib.hid ((HX1.out.setCell (p := ⟨wo.heap.size, k, none⟩) (Nat.le_refl _) (.int .u8 ((cf l1 k ^^^ gmul (cf g k) (pw i) : Nat) : Int))).drew)
          have Hst2 : Hid (l1.set k (cf l1 k ^^^ gmul (cf g k) (pw i)) = gnx g (pw i) (k + 1)) := Hst
          rw [Hst2.out] at Hs2
          clear hg1b hg1l Hst Hst2
          generalize gmul (cf g k) (pw i) = z at *
          generalize cf g k = y at *
          generalize cf l1 k = x1 at *
          go_still_tail 15, (by kernel_rfl)
          still_call (still_of (Hpw.out _))
          repeat still_step
          still_call (still_of (Htm.out _))
          repeat still_step
          refine wpStill_nil ?_
          go_wp2
          clear hx2
          go_roundw
          case rel => exact ⟨k + 1, by omega, by go_num, U8B.drew Hs2.out, HX2.out⟩
          case measure => simp [intOf]; omega
        · obtain rfl : k = g.length := by omega
          have hn := Hn.out
          rw [Hnx.out] at hn
          have hv2 := U8B.bytes hn (n := g.length + 1) (c := g.length + 1) (by rw [genR_len, Hgl.out]) (Nat.le_refl _) (by omega)
          have Hv2 := Lib.hid hv2
          clear hn hv2
          go_wp2
          go_roundw
          case rel => exact ⟨i + 1, by omega, by go_num, Hv2.out, HBr.out.trans (Hb.out.mono HBr.out.size)⟩
          case measure => simp [intOf]; omega
    · obtain rfl : i = 8 := by omega
      rw [genR_8] at hv
      have Hv := Lib.hid hv
      obtain ⟨A, c, rfl, h1, h2, h3⟩ := hv
      clear h3
      go_wp2
      go_ret2
      exact ⟨_, rfl, Hv.out, HBr.out⟩

/-! encoding -/
/-- The row behind k steps of one division. -/
def encK (R : List Nat) (i lead : Nat) : Nat → List Nat
  | 0 => R
  | k + 1 => (encK R i lead k).set (i + k) (cf (encK R i lead k) (i + k) ^^^ gmul lead (cf G8 (8 - k)))
theorem encK_len (R : List Nat) (i lead : Nat) : ∀ k, (encK R i lead k).length = R.length
  | 0 => rfl
  | k + 1 => by unfold encK; rw [List.length_set, encK_len R i lead k]
theorem encK_bytes {R : List Nat} (h : Bytes R) (i : Nat) {lead : Nat} (hl : lead < 256) : ∀ k, Bytes (encK R i lead k)
  | 0 => h
  | k + 1 => by
    have h1 := encK_bytes h i hl k
    exact set_bytes h1 _ (xor_lt (cf_lt h1 _) (gmul_lt _ hl))
theorem encK_cf (R : List Nat) (i lead : Nat) : ∀ k, i + k ≤ R.length → ∀ j, cf (encK R i lead k) j = if i ≤ j ∧ j < i + k then cf R j ^^^ gmul lead (cf G8 (8 - (j - i))) else cf R j
  | 0, _, j => by rw [if_neg (by omega)]; rfl
  | k + 1, h, j => by
    have ih := encK_cf R i lead k (by omega)
    unfold encK
    rw [cf_set _ _ _ _ (by rw [encK_len]; omega), ih, ih]
    by_cases e : i + k = j
    · subst e
      rw [if_pos rfl, if_neg (by omega), if_pos (by omega), show i + k - i = k by omega]
    · rw [if_neg e]
      by_cases h1 : i ≤ j ∧ j < i + k
      · rw [if_pos h1, if_pos (by omega)]
      · rw [if_neg h1, if_neg (by omega)]
def encT (D : List Nat) (i : Nat) : List Nat := (D.take i).foldl (lfsr G8) (List.replicate 8 0)
/-- The row behind i symbols. -/
structure EncS (D : List Nat) (i : Nat) (R : List Nat) : Prop where
  len : R.length = D.length + 8
  bytes : Bytes R
  at_ : ∀ j, cf R (i + j) = cf (D ++ List.replicate 8 0) (i + j) ^^^ cf (encT D i) j
theorem encT_zero_cf (D : List Nat) (j : Nat) : cf (encT D 0) j = 0 := by
  show cf (List.replicate 8 0) j = 0
  unfold cf
  rw [List.getElem?_replicate]
  split <;> rfl
theorem encS_zero {D : List Nat} (h : Bytes D) : EncS D 0 (D ++ List.replicate 8 0) := by
  refine ⟨by rw [List.length_append, List.length_replicate], fun b hb => ?_, fun j => by rw [encT_zero_cf, Nat.zero_add, Nat.xor_zero]⟩
  rcases List.mem_append.1 hb with hb | hb
  · exact h b hb
  · have := List.eq_of_mem_replicate hb
    omega
theorem encT_succ {D : List Nat} {i : Nat} (h : i < D.length) : encT D (i + 1) = lfsr G8 (encT D i) (cf D i) := by
  unfold encT
  rw [take_snoc_cf h, List.foldl_append]
  rfl
theorem encT_len (D : List Nat) : ∀ i, i ≤ D.length → (encT D i).length = 8
  | 0, _ => rfl
  | i + 1, h => by rw [encT_succ (by omega), lfsr_len]
theorem encS_step {D R : List Nat} {i : Nat} (h : EncS D i R) (hi : i < D.length) : EncS D (i + 1) (encK R i (cf R i) 9) := by
  obtain ⟨h1, h2, h3⟩ := h
  have hlead : cf R i = cf D i ^^^ cf (encT D i) 0 := by
    have := h3 0
    rw [Nat.add_zero] at this
    rw [this]
    congr 1
    unfold cf
    rw [List.getElem?_append_left hi]
  refine ⟨by rw [encK_len]; exact h1, encK_bytes h2 i (cf_lt h2 i) 9, fun j => ?_⟩
  rw [encK_cf R i (cf R i) 9 (by omega), show i + 1 + j = i + (1 + j) by omega, h3 (1 + j), encT_succ hi]
  have hl8 := encT_len D i (by omega)
  by_cases hj : j < 8
  · rw [if_pos (by omega), show i + (1 + j) - i = 1 + j by omega, show 8 - (1 + j) = 7 - j by omega, hlead]
    unfold lfsr
    rw [cf_map, if_pos hj, Nat.xor_assoc, Nat.add_comm 1 j]
  · rw [if_neg (by omega), cf_big (p := encT D i) (by omega), cf_big (p := lfsr G8 _ _) (by rw [lfsr_len]; omega)]
theorem encS_end {D R : List Nat} (h : EncS D D.length R) : R.drop D.length = rsPar D := by
  obtain ⟨h1, h2, h3⟩ := h
  have e : rsPar D = encT D D.length := by
    unfold rsPar encT
    rw [List.take_length, genP_8]
  have hl := encT_len D D.length (Nat.le_refl _)
  rw [e]
  refine List.ext_getElem? fun j => ?_
  rw [List.getElem?_drop]
  have hz : ∀ k, cf (D ++ List.replicate 8 0) (D.length + k) = 0 := fun k => by
    unfold cf
    rw [List.getElem?_append_right (by omega), List.getElem?_replicate]
    split <;> rfl
  by_cases hj : j < 8
  · have h4 := h3 j
    rw [hz, Nat.zero_xor] at h4
    unfold cf at h4
    rw [List.getElem?_eq_getElem (by omega), List.getElem?_eq_getElem (by omega)] at h4 ⊢
    simpa using h4
  · rw [List.getElem?_eq_none (by omega), List.getElem?_eq_none (by omega)]

end Go.Proofs.YtbeooijgkbkniaaGreatDoor
