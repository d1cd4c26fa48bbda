/-
 WALKS: interleave.Interleave at 836 bytes and eight rows.
 PLAIN: the cells of bytes.
 WALK: cells.FromBytes.
 PLAIN: a received word whose touched cells lie eight apart is decoded; what lies in a window of 90 cells lies eight apart behind deinterleaving.
-/
import Derived.Test.YtnlnmfkmbpihhaaGreatDoorStrW
namespace Go.Proofs.YtnlnmfkmbpihhaaGreatDoor
open Go.RowKit

def perI (l : List Nat) (i : Nat) : List Nat := (List.range 836).map fun j => if uil j < i then cf l (uil j) else 0
theorem perI_len (l : List Nat) (i : Nat) : (perI l i).length = 836 := by unfold perI; rw [List.length_map, List.length_range]
theorem perI_cf (l : List Nat) (i j : Nat) : cf (perI l i) j = if j < 836 then (if uil j < i then cf l (uil j) else 0) else 0 := by unfold perI; rw [cf_map]
theorem perI_set {l : List Nat} {i : Nat} (h : i < 836) : (perI l i).set (ilv i) (cf l i) = perI l (i + 1) := by
 refine list_ext836 (by rw [List.length_set, perI_len]) (perI_len _ _) fun j hj => ?_
 rw [cf_set _ _ _ _ (by rw [perI_len]; exact ilv_lt h), perI_cf, perI_cf, if_pos hj, if_pos hj]
 by_cases e : ilv i = j
 ·subst e
  rw [if_pos rfl, uil_ilv h, if_pos (by omega)]
 ·rw [if_neg e]
  have hne : uil j ≠ i := fun hu => e (by rw [← hu]; exact (ilv_uil hj).1)
  by_cases h1 : uil j < i
  ·rw [if_pos h1, if_pos (by omega)]
  ·rw [if_neg h1, if_neg (by omega)]
theorem perI_zero (l : List Nat) : perI l 0 = List.replicate 836 0 := by
 refine list_ext836 (perI_len _ _) List.length_replicate fun j hj => ?_
 rw [perI_cf, if_pos hj, if_neg (by omega)]
 unfold cf
 rw [List.getElem?_replicate, if_pos hj]
 rfl
theorem perI_end (l : List Nat) : perI l 836 = interL l := by
 unfold perI interL
 refine List.map_congr_left fun j hj => ?_
 rw [if_pos (ilv_uil (List.mem_range.1 hj)).2]

set_option maxRecDepth 100000 in
set_option maxHeartbeats 4000000 in
theorem permI_any (w : World) (s : ByteArray) (hs : s.size = 836) : Calls Tryz.prog 91 #[.string s, .int .i64 8, .func (.func 239) #[] #[]] w fun e w' => e = .returned (.tuple #[.string (strB (interL (bs s))), .int .i64 0]) ∧ Below w.heap.size w w' := by
 have hmk := make_u8_836
 have hsI : (s.size : Int) = 836 := by omega
 have hK0 : U8B (w.alloc (.cells (arrB (perD [] 0)) 5)) w.heap.size (perI (bs s) 0) := by
  rw [perI_zero, ← perD_zero []]
  exact U8B.new w _
 have HK0 := Lib.hid hK0
 have HB0 := Lib.hid ((Below.refl w.heap.size w).alloc (Nat.le_refl _) (.cells (arrB (perD [] 0)) 5))
 have hbl := bs_len s
 clear hK0
 go_enter Tryz.func91, Tryz.ntmps91
 go_wp2
 go_loopw [19] (fun x wr => ∃ i : Nat, i ≤ 836 ∧ x = .int .i64 i ∧ U8B wr w.heap.size (perI (bs s) i) ∧ Below w.heap.size w wr) (fun x _ => 836 - (intOf x).toNat)
 case atStart => exact ⟨0, by omega, rfl, HK0.out, HB0.out⟩
 case round =>
  obtain ⟨i, hi, rfl, hb, hB⟩ := hrel
  have Hb := Lib.hid hb
  have HBr := Lib.hid hB
  clear hb hB HK0 HB0
  by_cases h : i < 836
  ·have hiI : (i : Int) < 836 := by omega
   go_wp2_with fail
   refine (ilindex_any _ i h).mono ?_
   rintro e w1 ⟨rfl, hb⟩
   have Hb1 := Lib.hid (Blk.kept Hb.out hb)
   have HB1 := Lib.hid (HBr.out.trans (hb.mono HBr.out.size))
   have hlt := Blk.lt Hb.out
   clear hb
   have hil := ilv_lt h
   have hx : i < s.size := by omega
   have hxI : (i : Int) < s.size := by omega
   have hxJ : ((ilv i : Nat) : Int) < 836 := by omega
   have hcx : cf (bs s) i = (s[i]'hx).toNat := cf_get (bs_get s _ hx)
   have hc1 := U8B.cell Hb1.out (i := ilv i) (x := cf (perI (bs s) i) (ilv i)) (by unfold cf; rw [List.getElem?_eq_getElem (by rw [perI_len]; exact hil)]; rfl)
   have hf1 := Blk.frozen Hb1.out (ilv i)
   have Hset : Hid (U8B (w1.setCell ⟨w.heap.size, ilv i, none⟩ (.int .u8 ((s[i]'hx).toNat : Nat))) w.heap.size (perI (bs s) (i + 1))) := Lib.hid (by
    rw [← hcx, ← perI_set h]
    exact U8B.set Hb1.out (ilv i) _)
   clear hcx
   go_wp2_with (go_at_call 239; refine (inter1_any _ _ _).mono ?_; rintro e w' ⟨rfl, rfl⟩)
   go_roundw
   case rel => exact ⟨i + 1, by omega, by go_num, Hset.out, HB1.out.setCell (p := ⟨w.heap.size, ilv i, none⟩) (Nat.le_refl _) _⟩
   case measure => simp [intOf]; omega
  ·have hi8 : i = 836 := by omega
   subst hi8
   have hv := U8B.bytes Hb.out (n := 836) (c := 836) (by rw [perI_len]) (Nat.le_refl _) (by omega)
   rw [perI_end] at hv
   have hcs := run_toStr hv (interL_len _).symm
   clear hv
   go_wp2
   go_ret2
   exact ⟨rfl, HBr.out⟩
set_option maxHeartbeats 400000 in
theorem inter_any (w : World) (s : ByteArray) (hs : s.size = 836) : Calls Tryz.prog 217 #[.string s, .int .i64 8] w fun e w' => e = .returned (.tuple #[.string (strB (interL (bs s))), .int .i64 0]) ∧ Below w.heap.size w w' := by
 have H := Lib.hid (permI_any w s hs)
 clear hs
 go_enter Tryz.func217, Tryz.ntmps217
 go_wp2_with (go_at_call 91; refine H.out.mono ?_; rintro e w' ⟨rfl, hb⟩)
 go_ret2
 exact ⟨rfl, hb⟩

end Go.Proofs.YtnlnmfkmbpihhaaGreatDoor

namespace Go.Proofs.YtnlnmfkmbpihhaaGreatDoor
open Go.RowKit

/-- Cell k of a byte. -/
def byC (b k : Nat) : Nat := 48 + b / 2 ^ (7 - k) % 2
def byCs (b : Nat) : List Nat := (List.range 8).map (byC b)
def frmB (l : List Nat) : List Nat := l.flatMap byCs
theorem byCs_len (b : Nat) : (byCs b).length = 8 := by unfold byCs; rw [List.length_map, List.length_range]
theorem frmB_snoc (l : List Nat) (b : Nat) : frmB (l ++ [b]) = frmB l ++ byCs b := by unfold frmB; rw [List.flatMap_append]; simp
theorem frmB_len : ∀ l : List Nat, (frmB l).length = 8 * l.length
 | [] => rfl
 | b :: r => by
  have := frmB_len r
  unfold frmB at this ⊢
  rw [List.flatMap_cons, List.length_append, byCs_len, this, List.length_cons]
  omega
theorem frmB_01 (l : List Nat) : B01 (frmB l) := by
 intro c hc
 unfold frmB byCs at hc
 obtain ⟨b, _, hc⟩ := List.mem_flatMap.1 hc
 obtain ⟨k, _, rfl⟩ := List.mem_map.1 hc
 unfold byC
 omega
theorem u8_sh1 : ∀ (j : Fin 8) (b : Fin 256), bits .and .u8 ((b.val : Int) / (2 : Int) ^ j.val) 1 = ((b.val / 2 ^ j.val % 2 : Nat) : Int) := by decide +kernel

end Go.Proofs.YtnlnmfkmbpihhaaGreatDoor

namespace Go.Proofs.YtnlnmfkmbpihhaaGreatDoor
open Go.RowKit

set_option maxRecDepth 100000 in
set_option maxHeartbeats 4000000 in
theorem cfrom_any (w : World) (s : ByteArray) (hs : s.size ≤ 10000) : Calls Tryz.prog 213 #[.string s] w fun e w' => e = .returned (.string (strB (frmB (bs s)))) ∧ Below w.heap.size w w' := by
 have hbl := bs_len s
 go_enter Tryz.func213, Tryz.ntmps213
 go_wp2
 go_loopw [8] (fun x wr => ∃ i : Nat, i ≤ s.size ∧ x = .int .i64 (i : Int) ∧ Bld wr w.heap.size w.heap.size (frmB ((bs s).take i)) ∧ Below w.heap.size w wr) (fun x _ => s.size - (intOf x).toNat)
 case atStart => exact ⟨0, by omega, rfl, Bld.new w, (Below.refl _ _).alloc (Nat.le_refl _) _⟩
 case round =>
  obtain ⟨i, hi, rfl, hbl1, hB⟩ := hrel
  have Hbl := Lib.hid hbl1
  have HBr := Lib.hid hB
  clear hbl1 hB
  by_cases h : i < s.size
  ·have hiI : (i : Int) < s.size := by omega
   have hst : frmB ((bs s).take (i + 1)) = frmB ((bs s).take i) ++ byCs (s[i]'h).toNat := by
    rw [List.take_add_one, bs_get s i h]
    exact frmB_snoc _ _
   have Hst := Lib.hid hst
   have hlen : (frmB ((bs s).take i)).length ≤ 80000 := by rw [frmB_len, List.length_take]; omega
   have hb8 : (s[i]'h).toNat < 256 := UInt8.toNat_lt _
   obtain ⟨L, hL⟩ : ∃ L, frmB ((bs s).take i) = L := ⟨_, rfl⟩
   rw [hL] at Hbl Hst hlen
   have Hlen := Lib.hid hlen
   have Hb8 := Lib.hid hb8
   clear hst hL hlen hb8
   go_wp2
   go_loopw [11] (fun x wq => ∃ k : Nat, k ≤ 8 ∧ x = .int .i64 (k : Int) ∧ Bld wq w.heap.size w.heap.size (L ++ (List.range k).map (byC (s[i]'h).toNat)) ∧ Below w.heap.size w wq) (fun x _ => 8 - (intOf x).toNat)
   case atStart => exact ⟨0, by omega, rfl, by simpa using Hbl.out, HBr.out⟩
   case round =>
    obtain ⟨k, hk, rfl, hbl2, hB2⟩ := hrel
    by_cases h' : k < 8
    ·have hkI : (k : Int) < 8 := by omega
     have Hwb := Lib.hid (wb_any wr w.heap.size w.heap.size _ (byC (s[i]'h).toNat k) hbl2 (by rw [List.length_append, List.length_map, List.length_range]; have := Hlen.out; omega) hB2.size)
     have hsn : (L ++ (List.range k).map (byC (s[i]'h).toNat)) ++ [byC (s[i]'h).toNat k] = L ++ (List.range (k + 1)).map (byC (s[i]'h).toNat) := by rw [List.range_succ, List.map_append, List.append_assoc]; rfl
     have Hsn := Lib.hid hsn
     have HB2 := Lib.hid hB2
     have hsh := u8_sh1 ⟨7 - k, by omega⟩ ⟨(s[i]'h).toNat, Hb8.out⟩
     dsimp only at hsh
     have hx2 : (s[i]'h).toNat / 2 ^ (7 - k) % 2 < 2 := Nat.mod_lt _ (by decide)
     have hbc : byC (s[i]'h).toNat k = 48 + (s[i]'h).toNat / 2 ^ (7 - k) % 2 := rfl
     rw [hsn, hbc] at Hwb
     generalize (s[i]'h).toNat / 2 ^ (7 - k) % 2 = x at *
     have hw1 : IntKind.u8.wrap (48 + (x : Int)) = 48 + x := by rw [IntKind.wrap_u8]; omega
     have hw2 : (48 + (x : Int)) % 256 = 48 + x := by omega
     have hw3 : (((48 + x : Nat)) : Int) = 48 + x := by omega
     rw [hw3] at Hwb
     clear hsn hbc hx2 hw3 hbl2 hB2
     rcases (by omega : k = 0 ∨ k = 1 ∨ k = 2 ∨ k = 3 ∨ k = 4 ∨ k = 5 ∨ k = 6 ∨ k = 7) with rfl | rfl | rfl | rfl | rfl | rfl | rfl | rfl
     all_goals
      simp only [Nat.sub_zero, Nat.reduceSub, Nat.sub_self, Int.reducePow, Int.ediv_one] at hsh
      go_wp2_with fail
      refine Hwb.out.mono ?_
      rintro e w2 ⟨rfl, hbl3, hb3⟩
      have HL3 := Lib.hid hbl3
      have HB3 := Lib.hid hb3
      clear hbl3 hb3 Hwb Hbl HBr Hst Hlen Hb8 Hsn hsh
      go_wp2_with fail
      refine ⟨⟨_, ?_, ?_, HL3.out, HB2.out.trans HB3.out⟩, ?_⟩
      ·omega
      ·rfl
      ·simp [intOf]
    ·obtain rfl : k = 8 := by omega
     have HB2 := Lib.hid hB2
     have Hb2 : Hid (Bld wr w.heap.size w.heap.size (frmB ((bs s).take (i + 1)))) := Lib.hid (by rw [Hst.out]; exact hbl2)
     clear hbl2 hB2
     go_wp2
     go_roundw
     case rel => exact ⟨i + 1, by omega, by go_num, Hb2.out, HB2.out⟩
     case measure => simp [intOf]; omega
  ·obtain rfl : i = s.size := by omega
   have hl := Hbl.out
   rw [List.take_of_length_le (by omega)] at hl
   have Hs := Lib.hid (str_any wr w.heap.size w.heap.size _ (fun c hc => by rcases frmB_01 _ c hc with rfl | rfl <;> omega) hl HBr.out.size)
   clear hl Hbl
   go_wp2_with (go_at_call 66; refine Hs.out.mono ?_; rintro e w2 ⟨rfl, hbl3, hb3⟩; have HB3 := Lib.hid hb3; clear hbl3 hb3)
   go_ret
   exact ⟨rfl, HBr.out.trans HB3.out⟩

end Go.Proofs.YtnlnmfkmbpihhaaGreatDoor

namespace Go.Proofs.YtnlnmfkmbpihhaaGreatDoor

theorem rec_of {T : Nat → Bool} : ∀ (r w : List Nat) (i : Nat), r.length = w.length → (∀ j, j < w.length → T (i + j) = false → cf r j = cf w j) → Rec T i r w
 | [], [], _, _, _ => trivial
 | [], _ :: _, _, h, _ => by cases h
 | _ :: _, [], _, h, _ => by cases h
 | x :: r, o :: w, i, h, hp => by
  refine ⟨fun ht => ?_, rec_of r w (i + 1) (by simpa using h) fun j hj ht => ?_⟩
  ·exact hp 0 (by simp) ht
  ·exact hp (j + 1) (by simpa using hj) (by rw [← ht]; congr 1; omega)
/-- Where two words part. -/
def parts (r w : List Nat) (j : Nat) : Bool := cf r j != cf w j
theorem rec_parts {r w : List Nat} (h : r.length = w.length) : Rec (parts r w) 0 r w :=
 rec_of r w 0 h fun j _ ht => by
  unfold parts at ht
  rw [Nat.zero_add] at ht
  exact bne_eq_false_iff_eq.1 ht
theorem wrongs_self : ∀ w : List Nat, wrongs w w = 0
 | [] => rfl
 | x :: w => by
  unfold wrongs
  rw [wrongs_self w]
  unfold msm
  simp
theorem cst_two (u : List Nat) (h : Bits u) : cst 0 (u ++ [0, 0]) = 0 := by
 rw [cst_append]
 exact cst_tail (cst_lt u (by omega) h)
theorem bits_two {u : List Nat} (h : Bits u) : Bits (u ++ [0, 0]) := fun x hx => by
 rcases List.mem_append.1 hx with hx | hx
 ·exact h x hx
 ·simp at hx; omega
theorem apart_none : Apart fun _ => false := fun _ _ _ h _ => by cases h
/-- The touched cells lie eight apart: the bits are found, at the cost of the wrong cells. -/
theorem inner_path {u : List Nat} (hu : Bits u) (hul : u.length = 416) {r : List Nat} (hr : r.length = 836) (hA : Apart (parts r (convE u))) :
  (∀ v, extP r = some v → v = u ∧ wrongs r (convE u) = 0) ∧ vdec 416 r 0 = u ∧ vst r 0 = wrongs r (convE u) := by
 have hce : convE u = cenc 0 (u ++ [0, 0]) := rfl
 have hcl : (convE u).length = 836 := by rw [hce, cenc_len, List.length_append, hul]; rfl
 have hR := rec_parts (r := r) (w := convE u) (by rw [hr, hcl])
 rw [hce] at hA hR ⊢
 obtain ⟨h1, _, h3⟩ := vst_path _ hA (u ++ [0, 0]) r 0 0 (by omega) (bits_two hu) (cst_two u hu) hR
 have h4 := h3 416 (by rw [List.length_append, hul]; decide)
 rw [← hul, List.take_left, hul] at h4
 refine ⟨fun v hv => ?_, h4, h1⟩
 unfold extP at hv
 split at hv
 ·cases hv
 ·split at hv
  ·cases hv
  ·next x hx =>
   split at hv
   ·next hz =>
    cases hv
    obtain ⟨b1, b2⟩ := cext_some r 0 hx
    have hxl := cenc_len x 0
    rw [b2, hr] at hxl
    have hxe : x = x.take (x.length - 2) ++ [0, 0] := by
     conv => lhs; rw [← List.take_append_drop (x.length - 2) x, hz]
    have hb : Bits (x.take (x.length - 2)) := fun c hc => b1 c (List.mem_of_mem_take hc)
    have hc0 : cst 0 x = 0 := by rw [hxe]; exact cst_two _ hb
    have hR2 : Rec (fun _ => false) 0 r (cenc 0 x) := rec_of r _ 0 (by rw [b2]) fun j _ _ => by rw [b2]
    obtain ⟨g1, _, g3⟩ := vst_path _ apart_none x r 0 0 (by omega) b1 hc0 hR2
    have g4 := g3 416 (by omega)
    rw [h4] at g4
    rw [b2, wrongs_self] at g1
    rw [← h1, g1, g4, show x.length - 2 = 416 by omega]
    exact ⟨rfl, rfl⟩
   ·cases hv

/-! a window -/
theorem ilv_apart {i j : Nat} (h : i < j) (_hj : j < 836) (h1 : ilv i < ilv j + 90) (h2 : ilv j < ilv i + 90) : i + 8 ≤ j := by
 unfold ilv at h1 h2
 have hm : ∀ k, min k 4 = k ∧ k ≤ 4 ∨ min k 4 = 4 ∧ 4 ≤ k := fun k => by
  rcases Nat.le_total k 4 with h | h
  ·exact .inl ⟨Nat.min_eq_left h, h⟩
  ·exact .inr ⟨Nat.min_eq_right h, h⟩
 have hi := hm (i % 8)
 have hj' := hm (j % 8)
 generalize min (i % 8) 4 = a at *
 generalize min (j % 8) 4 = b at *
 clear hm
 rcases (by omega : i % 8 = j % 8 ∨ i % 8 + 1 ≤ j % 8 ∨ j % 8 + 1 ≤ i % 8) with h3 | h3 | h3 <;> omega
theorem dein_cf (l : List Nat) {i : Nat} (h : i < 836) : cf (deinL l) i = cf l (ilv i) := by unfold deinL; rw [cf_map, if_pos h]
theorem inter_cf (l : List Nat) {i : Nat} (h : i < 836) : cf (interL l) i = cf l (uil i) := by unfold interL; rw [cf_map, if_pos h]
theorem apart_window {R w : List Nat} (f : Nat) (hw : w.length = 836) (h : ∀ k, k < 836 → (k < f ∨ f + 90 ≤ k) → cf R k = cf (interL w) k) : Apart (parts (deinL R) w) := by
 have key : ∀ i, parts (deinL R) w i = true → i < 836 ∧ f ≤ ilv i ∧ ilv i < f + 90 := by
  intro i hi
  unfold parts at hi
  rw [bne_iff_ne] at hi
  by_cases hlt : i < 836
  ·refine ⟨hlt, ?_⟩
   by_cases hin : ilv i < f ∨ f + 90 ≤ ilv i
   ·refine (hi ?_).elim
    rw [dein_cf R hlt, h (ilv i) (ilv_lt hlt) hin, inter_cf w (ilv_lt hlt), uil_ilv hlt]
   ·omega
  ·refine (hi ?_).elim
   rw [cf_big (by rw [deinL_len]; omega), cf_big (by omega)]
 intro i j hij hi hj
 have h1 := key i hi
 have h2 := key j hj
 exact ilv_apart hij h2.1 (by omega) (by omega)
theorem apart_mod {r w : List Nat} (a : Nat) (h : ∀ i, cf r i ≠ cf w i → i % 8 = a) : Apart (parts r w) := by
 intro i j hij hi hj
 unfold parts at hi hj
 rw [bne_iff_ne] at hi hj
 have h1 := h i hi
 have h2 := h j hj
 omega

/-! counting -/
theorem wrongs_set : ∀ (r w : List Nat) (i x : Nat), r.length = w.length → i < r.length → cf r i = cf w i → x ≠ 63 → x ≠ cf w i → wrongs (r.set i x) w = wrongs r w + 1
 | [], _, i, _, _, h, _, _, _ => by cases h
 | _ :: _, [], _, _, h, _, _, _, _ => by cases h
 | y :: r, o :: w, 0, x, _, _, he, h63, hne => by
  have he : y = o := he
  have hne : x ≠ o := hne
  subst he
  show msm x y + wrongs r w = msm y y + wrongs r w + 1
  have h1 : msm x y = 1 := by unfold msm; rw [if_neg (by omega)]
  have h2 : msm y y = 0 := by unfold msm; rw [if_pos (.inr rfl)]
  rw [h1, h2]
  omega
 | y :: r, o :: w, i + 1, x, hl, hi, he, h63, hne => by
  show msm y o + wrongs (r.set i x) w = msm y o + wrongs r w + 1
  rw [wrongs_set r w i x (by simpa using hl) (by simpa using hi) he h63 hne]
  omega
theorem wrongs_open : ∀ (r w : List Nat), r.length = w.length → (∀ i, i < r.length → cf r i = 63 ∨ cf r i = cf w i) → wrongs r w = 0
 | [], [], _, _ => rfl
 | [], _ :: _, h, _ => by cases h
 | _ :: _, [], h, _ => by cases h
 | y :: r, o :: w, hl, h => by
  have h1 := wrongs_open r w (by simpa using hl) fun i hi => h (i + 1) (by simpa using hi)
  have h2 : msm y o = 0 := by
   unfold msm
   exact if_pos (h 0 (by simp))
  unfold wrongs
  rw [h1, h2]
  rfl
theorem uil_perm : (((List.range 836).map uil).isPerm (List.range 836)) = true := by decide +kernel
theorem range_map_cf {l : List Nat} {n : Nat} (h : l.length = n) : (List.range n).map (cf l) = l := by
 refine List.ext_getElem? fun i => ?_
 rw [List.getElem?_map]
 by_cases hi : i < n
 ·rw [List.getElem?_range hi, Option.map_some, List.getElem?_eq_getElem (by omega), cf_get (List.getElem?_eq_getElem (by omega))]
 ·rw [List.getElem?_eq_none (by simpa using hi), List.getElem?_eq_none (by omega)]
  rfl
theorem inter_perm {l : List Nat} (h : l.length = 836) : (interL l).Perm l := by
 have h1 := (List.isPerm_iff.1 uil_perm).map (cf l)
 rw [range_map_cf h, List.map_map] at h1
 exact h1
theorem inter_count {l : List Nat} (h : l.length = 836) (x : Nat) : (interL l).count x = l.count x := (inter_perm h).count_eq x

end Go.Proofs.YtnlnmfkmbpihhaaGreatDoor
