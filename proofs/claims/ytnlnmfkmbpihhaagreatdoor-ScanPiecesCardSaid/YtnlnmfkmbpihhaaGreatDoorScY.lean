/-
 WALK: stelelaw14.ScanPieces.
-/
import Derived.Test.YtnlnmfkmbpihhaaGreatDoorScP
import Derived.Test.YtnlnmfkmbpihhaaGreatDoorScX
namespace Go.Proofs.YtnlnmfkmbpihhaaGreatDoor
open Go.RowKit

theorem strs_two (W : World) (s t : ByteArray) : StrvAt (W.alloc (.cells #[.string s, .string t] 9)) (.slice (some ⟨W.heap.size, 0, none⟩) 2 2) [s, t] :=
 ⟨_, 2, rfl, fun i u hi => by
  match i, hi with
  | 0, hi => cases hi; exact ⟨_, 0, rfl, (Blk.new W 9 [.string s, .string t]).cell (i := 0) rfl⟩
  | 1, hi => cases hi; exact ⟨_, 0, rfl, (Blk.new W 9 [.string s, .string t]).cell (i := 1) rfl⟩
  | i + 2, hi => cases hi⟩
theorem strs_three (W : World) (r s t : ByteArray) : StrvAt (W.alloc (.cells #[.string r, .string s, .string t] 9)) (.slice (some ⟨W.heap.size, 0, none⟩) 3 3) [r, s, t] :=
 ⟨_, 3, rfl, fun i u hi => by
  match i, hi with
  | 0, hi => cases hi; exact ⟨_, 0, rfl, (Blk.new W 9 [.string r, .string s, .string t]).cell (i := 0) rfl⟩
  | 1, hi => cases hi; exact ⟨_, 0, rfl, (Blk.new W 9 [.string r, .string s, .string t]).cell (i := 1) rfl⟩
  | 2, hi => cases hi; exact ⟨_, 0, rfl, (Blk.new W 9 [.string r, .string s, .string t]).cell (i := 2) rfl⟩
  | i + 3, hi => cases hi⟩
namespace pieces

set_option maxRecDepth 100000 in
set_option maxHeartbeats 16000000 in
theorem walk (w : World) (v : Value) (ps : List Prt) (hv : PartsAt w v ps) (hl : ps.length ≤ 2940000000000) (hs : ∀ p ∈ ps, p.small) (cut : Nat) (hcut : cut < 65536) : Calls Tryz.prog 4 #[v, .int .u16 (cut : Int)] w fun e w' => e = .returned (.bool true) ∧ Below w.heap.size w w' := by
 have HA := Lib.hid (fun W => awake_any W)
 have HC := Lib.hid (cells_any w v ps hv hl hs)
 clear hv hl hs
 go_enter Tryz.func4, Tryz.ntmps4
 go_wp2_with fail
 refine HC.out.mono ?_
 rintro e w1 ⟨S, ok, rfl, hok, hb1⟩
 have HB1 := Lib.hid hb1
 clear hb1 HC
 rcases hok with rfl | ⟨rfl, hS⟩
 ·go_wp2_with (go_at_call 14; refine (HA.out _).mono ?_; rintro e w2 ⟨rfl, hb2⟩)
  go_ret
  exact ⟨rfl, HB1.out.trans (hb2.mono HB1.out.size)⟩
 ·have HP := Lib.hid (fun W : World => scpiece_any W S (by omega))
  have HR := Lib.hid (fun W : World => rpiece_any W S (by omega))
  generalize scanL S 0 = xs at *
  obtain ⟨K, hK⟩ : ∃ K, cut % (S.size + 1) = K := ⟨_, rfl⟩
  have hKs : K ≤ S.size := by rw [← hK]; have := Nat.mod_lt cut (show 0 < S.size + 1 by omega); omega
  have hKI : (K : Int) ≤ S.size := by omega
  have HKT : Hid ((cut : Int) % ((S.size : Int) + 1) = (K : Int)) := Lib.hid (by exact_mod_cast congrArg (Nat.cast : Nat → Int) hK)
  have hw1 : IntKind.i64.wrap ((S.size : Int) + 1) = (S.size : Int) + 1 := IntWalk.i64_in _ (by omega)
  have hne1 : (S.size : Int) + 1 ≠ 0 := by omega
  obtain ⟨S1, hS1⟩ : ∃ S1, S.extract 0 K = S1 := ⟨_, rfl⟩
  obtain ⟨S2, hS2⟩ : ∃ S2, S.extract K S.size = S2 := ⟨_, rfl⟩
  have hz1 : S1.size ≤ 3156 := by rw [← hS1, ByteArray.size_extract]; omega
  have hz2 : S2.size ≤ 3156 := by rw [← hS2, ByteArray.size_extract]; omega
  have HS2 : Hid (∀ s ∈ [S1, S2], s.size ≤ 900000) := Lib.hid (by
   intro s hs
   rcases List.mem_cons.1 hs with rfl | hs
   ·omega
   ·rw [List.mem_singleton.1 hs]; omega)
  have HBu := Lib.hid (fun W : World => rbusy_any (W.alloc (.cells #[.string S, .string S1, .string S2] 9)).drew (.slice (some ⟨W.heap.size, 0, none⟩) 3 3) [S, S1, S2] 10 (strs_three W S S1 S2) (by simp) (by
   intro s hs
   rcases List.mem_cons.1 hs with rfl | hs
   ·omega
   ·rcases List.mem_cons.1 hs with rfl | hs
    ·omega
    ·rw [List.mem_singleton.1 hs]; omega))
  clear hK hz1 hz2
  go_upto_region 5 with fail
  (try rw [HKT.out])
  clear hw1 hne1
  refine wp_region_held_drew (S := (fun _ => True)) (by kernel_rfl) ?_ (fun hHeld => ?_)
  ·exact trivial
  refine tk 0 ?_
  refine tk 1 ?_
  refine tk 2 ?_
  refine tk 3 ?_
  refine tk 4 ?_
  refine tk 5 ?_
  refine wpAnyH_ready (rs := [6]) (by kernel_rfl) (by simp) ?_
  refine AllReadyH.cons (o := _) rfl (fun K hK => ?_) ?_
  ·go_simp
   refine hko hK (by exact trivial) (fun _ => ?_)
   clear hK K
   refine tk 7 ?_
   refine wpAnyH_done (by kernel_rfl) ?_ _
   have HV5 : Hid (StrvAt (w1.alloc (.cells #[.string S1, .string S2] 9)).drew (.slice (some ⟨w1.heap.size, 0, none⟩) 2 2) [S1, S2]) := Lib.hid (strs_two _ _ _)
   have HB5 : Hid (Below w.heap.size w (w1.alloc (.cells #[.string S1, .string S2] 9)).drew) := Lib.hid (HB1.out.alloc HB1.out.size _).drew
   clear HB1
   go_upto_region 6 with fail
   generalize (w1.alloc (.cells #[.string S1, .string S2] 9)).drew = w5 at *
   generalize w1.heap.size = g5 at *
   refine wp_region_held_drew (S := (fun _ => True)) (by kernel_rfl) ?_ (fun hHeld => ?_)
   ·exact trivial
   refine tk 0 ?_
   refine tk 1 ?_
   refine tk 2 ?_
   refine tk 3 ?_
   refine tk 4 ?_
   refine tk 5 ?_
   refine tk 6 ?_
   refine wpAnyH_ready (rs := [7]) (by kernel_rfl) (by simp) ?_
   refine AllReadyH.cons (o := _) rfl (fun K hK => ?_) ?_
   ·go_simp
    refine hko hK (by exact trivial) (fun _ => ?_)
    clear hK K
    refine wpAnyH_ready (rs := [8]) (by kernel_rfl) (by simp) ?_
    refine AllReadyH.cons (o := _) rfl (fun K hK => ?_) ?_
    ·go_simp
     refine (HBu.out w5).mono ?_
     rintro e w6 ⟨n, rfl, hn, hb6⟩
     (try go_wp2_with fail)
     refine hko hK (by exact trivial) (fun _ => ?_)
     clear hK K
     refine tk 9 ?_
     refine wpAnyH_done (by kernel_rfl) ?_ _
     have hbD : Below w5.heap.size w5 (w5.alloc (.cells #[.string S, .string S1, .string S2] 9)).drew := ((Below.refl _ _).alloc (Nat.le_refl _) _).drew
     have hbX := hbD.trans (hb6.mono hbD.size)
     have HV6 := Lib.hid (HV5.out.below hbX)
     have HB6 := Lib.hid (HB5.out.trans (hbX.mono HB5.out.size))
     clear hbD hbX hb6 HV5 HB5 HBu
     rcases hn with rfl | rfl
     ·go_wp2_with fail
      refine (scpieces_any _ _ _ HV6.out (by simp) HS2.out).mono ?_
      rintro e wa ⟨va, rfl, ha, hba⟩
      have Ha := Lib.hid ha
      have HVa := Lib.hid (HV6.out.below hba)
      have HBa := Lib.hid (HB6.out.trans (hba.mono HB6.out.size))
      clear ha hba HV6 HB6
      go_wp2_with fail
      refine (rpieces_any _ _ _ HVa.out (by simp) HS2.out).mono ?_
      rintro e wb ⟨vb, rfl, hb, hbb⟩
      have Ha2 := Lib.hid (Ha.out.below hbb)
      have Hb := Lib.hid hb
      have HBb := Lib.hid (HBa.out.trans (hbb.mono HBa.out.size))
      clear hb hbb HVa HBa Ha
      go_wp2_with fail
      refine (rsame_any _ _ _ _ Ha2.out Hb.out).mono ?_
      rintro e wc ⟨rfl, hbc⟩
      have HBc := Lib.hid (HBb.out.trans (hbc.mono HBb.out.size))
      clear hbc Ha2 Hb HBb
      go_wp2_with fail
      refine (HP.out _).mono ?_
      rintro e wd ⟨vd, rfl, hd, hbd⟩
      have Hd := Lib.hid hd
      have HBd := Lib.hid (HBc.out.trans (hbd.mono HBc.out.size))
      clear hd hbd HBc
      go_wp2_with fail
      refine (HR.out _).mono ?_
      rintro e we ⟨ve, rfl, he, hbe⟩
      have Hd2 := Lib.hid (Hd.out.below hbe)
      have He := Lib.hid he
      have HBe := Lib.hid (HBd.out.trans (hbe.mono HBd.out.size))
      clear he hbe Hd HBd
      go_wp2_with fail
      refine (rsame_any _ _ _ _ Hd2.out He.out).mono ?_
      rintro e wf ⟨rfl, hbf⟩
      have HBf := Lib.hid (HBe.out.trans (hbf.mono HBe.out.size))
      clear hbf Hd2 He HBe
      go_wp2_with (go_at_call 14; refine (HA.out _).mono ?_; rintro e wg ⟨rfl, hbg⟩)
      go_ret
      exact ⟨rfl, HBf.out.trans (hbg.mono HBf.out.size)⟩
     ·go_wp2_with (go_at_call 14; refine (HA.out _).mono ?_; rintro e wa ⟨rfl, hba⟩)
      go_ret
      exact ⟨rfl, HB6.out.trans (hba.mono HB6.out.size)⟩
    exact AllReadyH.nil
   exact AllReadyH.nil
  exact AllReadyH.nil
end pieces
end Go.Proofs.YtnlnmfkmbpihhaaGreatDoor
