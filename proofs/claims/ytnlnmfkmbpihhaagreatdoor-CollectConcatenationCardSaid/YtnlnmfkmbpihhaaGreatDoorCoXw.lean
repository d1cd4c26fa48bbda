/-
 WALK: stelelaw44.CollectConcatenation.
-/
import Derived.Test.YtnlnmfkmbpihhaaGreatDoorCoX
namespace Go.Proofs.YtnlnmfkmbpihhaaGreatDoor
open Go.RowKit

namespace coconc

set_option maxRecDepth 100000 in
set_option maxHeartbeats 16000000 in
theorem walk (w : World) (v : Value) (fs : List Frm) (hv : FrmsAt w v fs) (ha : ∀ f ∈ fs, f.small) (sp : Nat) (hsp : sp < 65536) (ar : Int) (_ : 0 ≤ ar) (_ : ar < 4294967296) (gp : Nat) (hgp : gp < 256) :
  Calls Tryz.prog 9 #[v, .int .u16 (sp : Int), .int .u32 ar, .int .u8 (gp : Int)] w fun e w' => e = .returned (.bool true) ∧ Below w.heap.size w w' := by
 have HA := Lib.hid (fun W => alive_any W)
 have Hv := Lib.hid hv
 obtain ⟨A, c, rfl, h1, h2, h3⟩ := hv
 clear h3
 have HF := Lib.hid (fun W : World => few_any W A none fs.length 0 c 0)
 by_cases h5 : fs.length ≤ 5
 ·rw [decide_eq_true ⟨h5, by omega⟩] at HF
  obtain ⟨ss, hss⟩ : ∃ ss, pcsL fs.length sp fs = ss := ⟨_, rfl⟩
  have HP : Hid (∀ W : World, Below w.heap.size w W → Calls Tryz.prog 24 #[.slice A fs.length c, .int .u16 (sp : Int), .slice none 0 0] W fun e w' => ∃ v', e = .returned v' ∧ w'.ownsRow W.heap.size 9 1 v' ss.length (ss.map .string) ∧ Below W.heap.size W w') := Lib.hid (fun W hb => by
   rw [← hss]
   exact pieces_sound W _ fs sp (Hv.out.below hb) (by omega) ha hsp)
  have hsl : ss.length ≤ 5 := by rw [← hss]; exact pcsL_few h5
  have HSz : Hid (∀ s ∈ ss, s.size ≤ 2556) := Lib.hid (by rw [← hss]; exact fun s hs => (pcsL_size s hs).2)
  obtain ⟨n, hn⟩ : ∃ n, gp % 20 = n := ⟨_, rfl⟩
  have hn20 : n < 20 := by omega
  have hnT : Int.tmod (gp : Int) 20 = (n : Int) := by rw [Int.tmod_eq_emod_of_nonneg (by omega)]; omega
  have hnE : (gp : Int) % 20 = (n : Int) := by omega
  have HEq : Hid (collF ar (piecesL 0 [catL n ss]) = collF ar (piecesL 0 ss)) := Lib.hid (by
   rw [← hss]
   exact collF_same fun y => by rw [framesL_cat ha])
  have HRp : Hid (∀ W : World, Calls Tryz.prog 31 #[.string ⟨#[63]⟩, .int .i64 (n : Int)] W fun e w' => e = .returned (.string (gapB n)) ∧ Below W.heap.size W w') := Lib.hid (fun W => repeat_any W 63 n (by omega))
  have hcat : ∀ i, (catL n (ss.take i)).size ≤ 20000 := fun i => by
   have h1 := catL_size (n := n) (m := 2556) (ss := ss.take i) fun x hx => HSz.out x (List.mem_of_mem_take hx)
   have h2 : (ss.take i).length ≤ 5 := by rw [List.length_take]; omega
   have h3 := Nat.mul_le_mul h2 (Nat.le_refl (2556 + n))
   omega
  have Hcat := Lib.hid hcat
  have hgs : (gapB n).size = n := by unfold gapB; rw [strB_size, List.length_replicate]
  have Hwr : Hid (Int.tmod (IntKind.i64.wrap (gp : Int)) 20 = (n : Int)) := Lib.hid (by rw [show IntKind.i64.wrap (gp : Int) = (gp : Int) from IntWalk.i64_in _ (by omega)]; exact hnT)
  clear hcat hss hn
  go_enter Tryz.func9, Tryz.ntmps9
  go_wp2_with fail
  refine (HA.out _).mono ?_
  rintro e1 w1 ⟨rfl, hb1⟩
  have HB1 := Lib.hid hb1
  clear hb1
  go_wp2_with fail
  refine (HF.out _).mono ?_
  rintro e2 w2 ⟨rfl, rfl⟩
  go_wp2_with fail
  refine (HP.out _ HB1.out).mono ?_
  rintro e3 w3 ⟨v3, rfl, ho3, hb3⟩
  obtain ⟨A3, c3, rfl⟩ := own_sliceU ho3
  have HV3 := Lib.hid (StrvAt.of_own ho3)
  have HB3 := Lib.hid (HB1.out.trans (hb3.mono HB1.out.size))
  clear ho3 hb3 HB1 HP
  go_wp2
  go_loopw [10, 11] (fun acc x wr => ∃ i : Nat, i ≤ ss.length ∧ acc = .string (catL n (ss.take i)) ∧ x = .int .i64 (i : Int) ∧ Below w3.heap.size w3 wr) (fun _ x _ => ss.length - (intOf x).toNat)
  case atStart => exact ⟨0, by omega, rfl, rfl, Below.refl _ _⟩
  case round =>
   obtain ⟨i, hi, rfl, rfl, hB⟩ := hrel
   have HB := Lib.hid hB
   clear hB
   by_cases h : i < ss.length
   ·have hiI : (i : Int) < ss.length := by omega
    obtain ⟨s, hs⟩ : ∃ s, ss[i]? = some s := ⟨_, List.getElem?_eq_getElem h⟩
    have hsz := HSz.out s (List.mem_of_getElem? hs)
    have hsum := Hcat.out i
    obtain ⟨_, _, e9, h4⟩ := HV3.out.below HB.out
    cases e9
    obtain ⟨b, o, rfl, hc⟩ := h4 i s hs
    clear h4
    have Hsnoc := Lib.hid (catL_snoc (n := n) hs)
    clear hs
    generalize catL n (ss.take i) = acc at *
    have hcc : ¬ 9223372036854775807 < acc.size + s.size := by omega
    have hcd : ¬ 9223372036854775807 < acc.size + s.size + n := by omega
    have HL := Lib.hid hc
    go_upto_region 10 with fail
    refine wp_region_held_drew (S := (fun W => W.cell? ⟨b, o + i, none⟩ = some (.string s))) (by kernel_rfl) ?_ (fun hHeld => ?_)
    ·exact hc
    refine tk 0 ?_
    refine tk 1 ?_
    refine tk 2 ?_
    refine tk 3 ?_
    refine tk 4 ?_
    refine tk 5 ?_
    refine tk 6 ?_
    refine tk 7 ?_
    refine tk 8 ?_
    refine wpAnyH_ready (rs := [9]) (by kernel_rfl) (by simp) ?_
    refine AllReadyH.cons (o := _) rfl (fun K hK => ?_) ?_
    ·go_simp
     rw [Hwr.out]
     refine (HRp.out _).mono ?_
     rintro e w6 ⟨rfl, hb6⟩
     (try go_wp2_with fail)
     refine hko hK (by exact cell_below hb6 HL.out) (fun _ => ?_)
     clear hK K
     refine tk 10 ?_
     refine tk 11 ?_
     refine wpAnyH_done (by kernel_rfl) ?_ _
     have e1 : Below wr.heap.size wr w6 := (Below.refl _ _).drew.trans hb6
     have HB6 := Lib.hid (HB.out.trans (e1.mono HB.out.size))
     clear e1 hb6
     go_wp2
     go_roundw
     case rel => exact ⟨i + 1, by omega, by rw [Hsnoc.out], by go_num, HB6.out⟩
     case measure => simp [intOf]; omega
    exact AllReadyH.nil
   ·obtain rfl : i = ss.length := by omega
    have hiI : ¬ ((ss.length : Nat) : Int) < (ss.length : Int) := by omega
    have hz := Hcat.out ss.length
    have hz2 := HEq.out
    rw [List.take_length] at hz
    rw [List.take_length]
    generalize catL n ss = all at *
    have HC1 : Hid (∀ (W : World) (vl : Value), StrvAt W vl [all] → Calls Tryz.prog 26 #[vl, .int .u32 ar] W fun e w' => ∃ v, e = .returned (.agg #[.int .u32 ar, v]) ∧ FrmsAt w' v (collF ar (piecesL 0 ss)) ∧ Below W.heap.size W w') := Lib.hid (fun W vl h => by
     rw [← hz2]
     refine coll_pieces W vl ar [all] h (by simp) (fun s hs => ?_) (piecesL_small (n := 20000) (by simp) fun s hs => ?_)
     ·rw [List.mem_singleton.1 hs]; omega
     ·rw [List.mem_singleton.1 hs]; exact hz)
    have HC2 : Hid (∀ (W : World) (vl : Value), StrvAt W vl ss → Calls Tryz.prog 26 #[vl, .int .u32 ar] W fun e w' => ∃ v, e = .returned (.agg #[.int .u32 ar, v]) ∧ FrmsAt w' v (collF ar (piecesL 0 ss)) ∧ Below W.heap.size W w') := Lib.hid (fun W vl h =>
     coll_pieces W vl ar ss h (by omega) (fun s hs => Nat.le_trans (HSz.out s hs) (by omega)) (piecesL_small (n := 2556) (by omega) HSz.out))
    clear hz hz2
    have HO := Lib.hid (strs_oneX wr all)
    have HBo := Lib.hid (HB.out.alloc HB.out.size (.cells #[.string all] 9))
    go_wp2_with fail
    generalize wr.alloc (.cells #[.string all] 9) = wo at *
    refine (HC1.out _ _ HO.out).mono ?_
    rintro e4 w4 ⟨u4, rfl, hf4, hb4⟩
    have HF4 := Lib.hid hf4
    have HB4 := Lib.hid (HBo.out.trans (hb4.mono HBo.out.size))
    clear hf4 hb4
    go_wp2_with fail
    refine (HC2.out _ _ (HV3.out.below HB4.out)).mono ?_
    rintro e5 w5 ⟨u5, rfl, hf5, hb5⟩
    have HF5 := Lib.hid hf5
    have HF4' := Lib.hid (HF4.out.below hb5)
    have HB5 := Lib.hid (HB4.out.trans (hb5.mono HB4.out.size))
    clear hf5 hb5 HF4 HB4
    go_wp2_with fail
    refine (same44_any _ ar u4 u5 _ HF4'.out HF5.out).mono ?_
    rintro e6 w6 ⟨rfl, hb6⟩
    have HB6 := Lib.hid (HB5.out.trans (hb6.mono HB5.out.size))
    clear hb6
    go_wp2_with fail
    go_ret
    exact ⟨rfl, HB3.out.trans (HB6.out.mono HB3.out.size)⟩
 ·rw [decide_eq_false fun h => h5 h.1] at HF
  go_enter Tryz.func9, Tryz.ntmps9
  go_wp2_with fail
  refine (HA.out _).mono ?_
  rintro e1 w1 ⟨rfl, hb1⟩
  have HB1 := Lib.hid hb1
  clear hb1
  go_wp2_with fail
  refine (HF.out _).mono ?_
  rintro e2 w2 ⟨rfl, rfl⟩
  go_wp2_with fail
  go_ret
  exact ⟨rfl, HB1.out⟩
end coconc
end Go.Proofs.YtnlnmfkmbpihhaaGreatDoor
