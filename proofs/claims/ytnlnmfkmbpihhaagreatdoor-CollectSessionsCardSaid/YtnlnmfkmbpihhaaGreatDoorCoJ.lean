/-
 WALKS: steleref44.SameInts; stelelaw44.CollectSessions.
-/
import Derived.Test.YtnlnmfkmbpihhaaGreatDoorCoI
import Derived.Test.YtnlnmfkmbpihhaaGreatDoorCoG
import Derived.Test.YtnlnmfkmbpihhaaGreatDoorCoD
namespace Go.Proofs.YtnlnmfkmbpihhaaGreatDoor
open Go.RowKit

/-- A list of numbers, read. -/
theorem ints_all {W : World} {v : Value} {xs : List Int} (h : IntsAt W v xs) : ∃ A c, v = .slice A xs.length c ∧ xs.length ≤ 9223372036854775807 ∧ ∀ i x, xs[i]? = some x → ∃ b o, A = some ⟨b, o, none⟩ ∧ W.cell? ⟨b, o + i, none⟩ = some (.int .i64 x) := by
 obtain ⟨A, c, rfl, h1, h2, h3⟩ := h
 refine ⟨A, c, rfl, by omega, fun i x hi => ?_⟩
 obtain ⟨b, o, u, e, hc, hr⟩ := h3 i x hi
 have hu : u = .int .i64 x := hr
 exact ⟨b, o, e, by rw [hc, hu]⟩
theorem ints_below {W W' : World} {v : Value} {xs : List Int} (h : IntsAt W v xs) (hb : Below W.heap.size W W') : IntsAt W' v xs := by
 obtain ⟨A, c, rfl, h1, h2, h3⟩ := h
 refine ⟨A, c, rfl, h1, h2, fun i x hi => ?_⟩
 obtain ⟨b, o, u, e, hc, hr⟩ := h3 i x hi
 exact ⟨b, o, u, e, cell_below hb hc, hr⟩
set_option maxRecDepth 100000 in
set_option maxHeartbeats 8000000 in
theorem samei_any (w : World) (v1 v2 : Value) (xs : List Int) (h1 : IntsAt w v1 xs) (h2 : IntsAt w v2 xs) : Calls Tryz.prog 35 #[v1, v2] w fun e w' => e = .returned (.bool true) ∧ Below w.heap.size w w' := by
 obtain ⟨A1, c1, rfl, hl, d1⟩ := ints_all h1
 obtain ⟨A2, c2, rfl, _, d2⟩ := ints_all h2
 have D1 := Lib.hid d1
 have D2 := Lib.hid d2
 clear d1 d2 h1 h2
 go_enter Tryz.func35, Tryz.ntmps35
 go_wp2
 go_loopw [5] (fun x wr => ∃ k : Nat, k ≤ xs.length ∧ x = .int .i64 (k : Int) ∧ Below w.heap.size w wr) (fun x _ => xs.length - (intOf x).toNat)
 case atStart => exact ⟨0, by omega, rfl, Below.refl _ _⟩
 case round =>
  obtain ⟨k, hk, rfl, hB⟩ := hrel
  have HBr := Lib.hid hB
  clear hB
  by_cases h : k < xs.length
  ·have hkI : (k : Int) < xs.length := by omega
   obtain ⟨x, hx⟩ : ∃ x, xs[k]? = some x := ⟨_, List.getElem?_eq_getElem h⟩
   obtain ⟨b1, o1, rfl, g1⟩ := D1.out k _ hx
   obtain ⟨b2, o2, rfl, g2⟩ := D2.out k _ hx
   have c1 := cell_below HBr.out g1
   have c2 := cell_below HBr.out g2
   clear g1 g2 hx D1 D2
   go_upto_region 6 with fail
   go_quiet (fail)
   go_wp2
   clear c1 c2
   go_roundw
   case rel => exact ⟨k + 1, by omega, by go_num, below_drewN HBr.out nq⟩
   case measure => simp [intOf]; omega
  ·have hkI : ¬ (k : Int) < xs.length := by omega
   go_wp2
   go_ret
   exact ⟨rfl, HBr.out⟩
theorem lay_err (ss : Int) : ∀ (fs : List Frm) (st : LSt), ∃ (a b e : Int), layR (fs.foldl (layStep ss) st) = .tuple #[.agg #[.int .i64 a, .int .i64 b], .int .i64 e] ∧ (e != 19) = (decide (ss ∈ fs.map Frm.s) || !(decide (st = some none)))
 | [], none => ⟨0, 0, 20, rfl, by simp⟩
 | [], some none => ⟨0, 0, 19, rfl, by simp⟩
 | [], some (some x) => ⟨x.1, x.2, 0, rfl, by simp⟩
 | f :: r, st => by
  obtain ⟨a, b, e, h1, h2⟩ := lay_err ss r (layStep ss st f)
  refine ⟨a, b, e, h1, ?_⟩
  rw [h2]
  by_cases hs : f.s = ss
  ·have hne : layStep ss st f ≠ some none := by
    unfold layStep
    rw [if_pos hs]
    match st with
    | none => simp
    | some none => simp
    | some (some x) => dsimp only; split <;> simp
   simp [hs, hne]
  ·have he : layStep ss st f = st := by unfold layStep; rw [if_neg hs]
   have hs2 : ¬ ss = f.s := fun e => hs e.symm
   simp [he, hs2]
namespace cosess

set_option maxRecDepth 100000 in
set_option maxHeartbeats 16000000 in
theorem walk (w : World) (ar : Int) (v : Value) (fs : List Frm) (hv : FrmsAt w v fs) (hw : ∀ f ∈ fs, I64 f.d ∧ I64 f.p) (ss : Int) :
  Calls Tryz.prog 11 #[.agg #[.int .u32 ar, v], .int .i64 ss] w fun e w' => e = .returned (.bool true) ∧ Below w.heap.size w w' := by
 have HA := Lib.hid (fun W => alive_any W)
 have Hv := Lib.hid hv
 have Hw := Lib.hid hw
 obtain ⟨A, c, rfl, h1, h2, h3⟩ := hv
 clear h3 hw
 have hw1 := Blk.new w 55 [.int .u32 ar, .slice A fs.length c]
 change Blk (w.alloc (.cells #[.int .u32 ar, .slice A fs.length c] 55)) _ _ _ at hw1
 have HZ := Lib.hid hw1
 have HBz := Lib.hid ((Below.refl w.heap.size w).alloc (Nat.le_refl _) (.cells #[.int .u32 ar, .slice A fs.length c] 55))
 clear hw1
 go_enter Tryz.func11, Tryz.ntmps11
 go_upto_region 1 with fail
 generalize w.alloc (.cells #[.int .u32 ar, .slice A fs.length c] 55) = wz at *
 go_wp2_with fail
 refine (HA.out _).mono ?_
 rintro e1 w1 ⟨rfl, hb1⟩
 have HZ1 := Lib.hid (HZ.out.kept hb1)
 have HB1 := Lib.hid (HBz.out.trans (hb1.mono HBz.out.size))
 clear hb1 HZ HBz
 have c0 := HZ1.out.cell (i := 0) rfl
 have c1 := HZ1.out.cell (i := 1) rfl
 by_cases h50 : 50 < fs.length
 ·have h50I : (50 : Int) < fs.length := by omega
  go_wp2
  go_ret
  exact ⟨rfl, HB1.out⟩
 ·have h50I : ¬ (50 : Int) < fs.length := by omega
  have HP := Lib.hid (fun (W : World) (hb : Below w.heap.size w W) => lay_any W ar (.slice A fs.length c) fs ss (Hv.out.below hb) Hw.out (by omega))
  have HR := Lib.hid (fun (W : World) (hb : Below w.heap.size w W) => rlay_any W ar (.slice A fs.length c) fs ss (Hv.out.below hb))
  have HS := Lib.hid (fun (W : World) (hb : Below w.heap.size w W) => sess_any W ar (.slice A fs.length c) fs (Hv.out.below hb) (by omega))
  have HT := Lib.hid (fun (W : World) (hb : Below w.heap.size w W) => rsess_any W ar (.slice A fs.length c) fs (Hv.out.below hb) (by omega))
  obtain ⟨a, b, e, hp, he⟩ := lay_err ss fs (some none)
  rw [show layF ss fs = _ from hp] at HP HR
  have hin : (e != 19) = decide (ss ∈ sessL (fs.map Frm.s)) := by
   rw [he]
   simp [(sessL_spec _).2]
  have hinc := (sessL_spec (fs.map Frm.s)).1
  generalize sessL (fs.map Frm.s) = L at *
  have Hin := Lib.hid hin
  have Hinc := Lib.hid hinc
  clear hp he hin hinc
  go_wp2_with fail
  refine (HP.out _ HB1.out).mono ?_
  rintro e2 w2 ⟨rfl, hb2⟩
  have hA2 : Below w2.heap.size w2 (w2.alloc (.cells #[.int .i64 a, .int .i64 b] 31)) := (Below.refl _ _).alloc (Nat.le_refl _) _
  have hL2 := Blk.new w2 31 [.int .i64 a, .int .i64 b]
  change Blk (w2.alloc (.cells #[.int .i64 a, .int .i64 b] 31)) _ _ _ at hL2
  have hbb := hb2.trans (hA2.mono hb2.size)
  have HL2 := Lib.hid hL2
  have HZ2 := Lib.hid (HZ1.out.kept hbb)
  have HB2 := Lib.hid (HB1.out.trans (hbb.mono HB1.out.size))
  clear hb2 hA2 hL2 hbb HZ1 HB1 c0 c1 HP
  go_upto_region 6 with fail
  generalize w2.alloc (.cells #[.int .i64 a, .int .i64 b] 31) = x2 at *
  generalize w2.heap.size = g2 at *
  have c0 := HZ2.out.cell (i := 0) rfl
  have c1 := HZ2.out.cell (i := 1) rfl
  go_wp2_with fail
  refine (HR.out _ HB2.out).mono ?_
  rintro e3 w3 ⟨rfl, hb3⟩
  have hA3 : Below w3.heap.size w3 (w3.alloc (.cells #[.int .i64 a, .int .i64 b] 31)) := (Below.refl _ _).alloc (Nat.le_refl _) _
  have hL3 := Blk.new w3 31 [.int .i64 a, .int .i64 b]
  change Blk (w3.alloc (.cells #[.int .i64 a, .int .i64 b] 31)) _ _ _ at hL3
  have hbb := hb3.trans (hA3.mono hb3.size)
  have HL3 := Lib.hid hL3
  have HL2b := Lib.hid (HL2.out.kept hbb)
  have HZ3 := Lib.hid (HZ2.out.kept hbb)
  have HB3 := Lib.hid (HB2.out.trans (hbb.mono HB2.out.size))
  clear hb3 hA3 hL3 hbb HZ2 HB2 HL2 c0 c1 HR
  go_upto_region 7 with fail
  generalize w3.alloc (.cells #[.int .i64 a, .int .i64 b] 31) = x3 at *
  generalize w3.heap.size = g3 at *
  have c0 := HZ3.out.cell (i := 0) rfl
  have c1 := HZ3.out.cell (i := 1) rfl
  go_wp2_with fail
  refine (HS.out _ HB3.out).mono ?_
  rintro e4 w4 ⟨v4, rfl, hi4, hb4⟩
  have HI4 := Lib.hid hi4
  have HL2c := Lib.hid (HL2b.out.kept hb4)
  have HL3c := Lib.hid (HL3.out.kept hb4)
  have HZ4 := Lib.hid (HZ3.out.kept hb4)
  have HB4 := Lib.hid (HB3.out.trans (hb4.mono HB3.out.size))
  obtain ⟨A4, c4, rfl, hl4, d4⟩ := ints_all hi4
  have HD4 := Lib.hid d4
  clear hi4 hb4 d4 HZ3 HB3 HL2b HL3 c0 c1 HS
  go_wp2
  go_loopw [10, 35] (fun i x wr => ∃ k : Nat, k ≤ L.length ∧ x = .int .i64 (k : Int) ∧ i = .bool (decide (ss ∈ L.take k)) ∧ wr = w4) (fun _ x _ => L.length - (intOf x).toNat)
  case atStart => exact ⟨0, by omega, rfl, by simp, rfl⟩
  case round =>
   obtain ⟨k, hk, rfl, rfl, rfl⟩ := hrel
   by_cases h : k < L.length
   ·have hkI : (k : Int) < L.length := by omega
    obtain ⟨s, hs⟩ : ∃ s, L[k]? = some s := ⟨_, List.getElem?_eq_getElem h⟩
    obtain ⟨bb, oo, rfl, hc⟩ := HD4.out k s hs
    have Htk : Hid (decide (ss ∈ L.take (k + 1)) = (decide (ss ∈ L.take k) || (s == ss))) := Lib.hid (by
     obtain ⟨q1, q2⟩ := List.getElem?_eq_some_iff.1 hs
     rw [List.take_succ_eq_append_getElem q1, q2]
     simp
     by_cases e : s = ss
     ·simp [e]
     ·have e2 : ¬ ss = s := fun q => e q.symm
      simp [e, e2])
    obtain ⟨bi, hbi⟩ : ∃ bi, decide (ss ∈ L.take k) = bi := ⟨_, rfl⟩
    rw [hbi] at Htk
    try rw [hbi]
    clear hbi
    by_cases hk0 : k = 0
    ·have hk0I : ¬ (0 : Int) < k := by omega
     have hkz : decide ((0 : Int) < k) = false := decide_eq_false hk0I
     clear hk0
     cases bi with
     | true =>
      go_wp2
      go_roundw
      case rel => exact ⟨k + 1, by omega, by go_num, by rw [Htk.out]; rfl, by first | rfl | trivial⟩
      case measure => simp [intOf]; omega
     | false =>
      by_cases q : s = ss
      ·have qb : (s == ss) = true := by rw [beq_iff_eq]; exact q
       have Hq : Hid (decide (ss ∈ L.take (k + 1)) = true) := Lib.hid (by rw [Htk.out, qb]; rfl)
       clear q Htk
       go_wp2
       go_roundw
       case rel => exact ⟨k + 1, by omega, by go_num, by rw [Hq.out], by first | rfl | trivial⟩
       case measure => simp [intOf]; omega
      ·have qb : (s == ss) = false := by rw [beq_eq_false_iff_ne]; exact q
       have Hq : Hid (decide (ss ∈ L.take (k + 1)) = false) := Lib.hid (by rw [Htk.out, qb]; rfl)
       clear q Htk
       go_wp2
       go_roundw
       case rel => exact ⟨k + 1, by omega, by go_num, by rw [Hq.out], by first | rfl | trivial⟩
       case measure => simp [intOf]; omega
    ·obtain ⟨j, hj⟩ : ∃ j, j + 1 = k := ⟨k - 1, by omega⟩
     have hk0I : (0 : Int) < k := by omega
     have hkz : decide ((0 : Int) < k) = true := decide_eq_true hk0I
     have hwr : IntKind.i64.wrap ((k : Int) - 1) = (j : Int) := by rw [IntWalk.i64_in _ (by omega)]; omega
     have hjl : j < L.length := by omega
     obtain ⟨s2, hs2⟩ : ∃ s2, L[j]? = some s2 := ⟨_, List.getElem?_eq_getElem hjl⟩
     have hlt : ¬ s ≤ s2 := by
      obtain ⟨q1, q2⟩ := List.getElem?_eq_some_iff.1 hs
      obtain ⟨q3, q4⟩ := List.getElem?_eq_some_iff.1 hs2
      have h := List.pairwise_iff_getElem.1 Hinc.out j k q3 q1 (by omega)
      omega
     obtain ⟨_, _, e8, hc2⟩ := HD4.out j s2 hs2
     cases e8
     have hjI : (j : Int) < L.length := by omega
     clear hk0 hs hs2
     cases bi with
     | true =>
      go_wp2
      go_roundw
      case rel => exact ⟨k + 1, by omega, by go_num, by rw [Htk.out]; rfl, by first | rfl | trivial⟩
      case measure => simp [intOf]; omega
     | false =>
      by_cases q : s = ss
      ·have qb : (s == ss) = true := by rw [beq_iff_eq]; exact q
       have Hq : Hid (decide (ss ∈ L.take (k + 1)) = true) := Lib.hid (by rw [Htk.out, qb]; rfl)
       clear q Htk
       go_wp2
       go_roundw
       case rel => exact ⟨k + 1, by omega, by go_num, by rw [Hq.out], by first | rfl | trivial⟩
       case measure => simp [intOf]; omega
      ·have qb : (s == ss) = false := by rw [beq_eq_false_iff_ne]; exact q
       have Hq : Hid (decide (ss ∈ L.take (k + 1)) = false) := Lib.hid (by rw [Htk.out, qb]; rfl)
       clear q Htk
       go_wp2
       go_roundw
       case rel => exact ⟨k + 1, by omega, by go_num, by rw [Hq.out], by first | rfl | trivial⟩
       case measure => simp [intOf]; omega
   ·obtain rfl : k = L.length := by omega
    have hkI : ¬ (L.length : Int) < L.length := by omega
    have hin := Hin.out
    rw [List.take_length]
    obtain ⟨bi, hbi⟩ : ∃ bi, decide (ss ∈ L) = bi := ⟨_, rfl⟩
    rw [hbi] at hin ⊢
    have a0 := HL2c.out.cell (i := 0) rfl
    have a1 := HL2c.out.cell (i := 1) rfl
    have b0 := HL3c.out.cell (i := 0) rfl
    have b1 := HL3c.out.cell (i := 1) rfl
    have c0 := HZ4.out.cell (i := 0) rfl
    have c1 := HZ4.out.cell (i := 1) rfl
    clear hbi
    go_wp2_with fail
    refine (HT.out _ HB4.out).mono ?_
    rintro e5 w5 ⟨v5, rfl, hi5, hb5⟩
    have HI5 := Lib.hid hi5
    have HI4b := Lib.hid (ints_below HI4.out hb5)
    have HB5 := Lib.hid (HB4.out.trans (hb5.mono HB4.out.size))
    clear hi5 hb5
    go_wp2_with fail
    refine (samei_any _ _ _ _ HI4b.out HI5.out).mono ?_
    rintro e6 w6 ⟨rfl, hb6⟩
    have HB6 := Lib.hid (HB5.out.trans (hb6.mono HB5.out.size))
    clear hb6
    go_wp2
    go_ret
    exact ⟨rfl, HB6.out⟩
end cosess
end Go.Proofs.YtnlnmfkmbpihhaaGreatDoor
