/-
 WALK: the reference's before (steleref10).
 WALK: the reference's before (steleref10).
 WALK: the reference's table (steleref10).
 WALK: the reference's Decode of the inner code (steleref10).
-/
import Derived.Test.YtnlnmfkmbpihhaaGreatDoorRdA
import Derived.Test.YtnlnmfkmbpihhaaGreatDoorVitC
import Derived.Test.YtnlnmfkmbpihhaaGreatDoorVitE
import Derived.BigQuiet
namespace Go.Proofs.YtnlnmfkmbpihhaaGreatDoor
open Go.RowKit

def upd (f : Nat → Int) (k : Nat) (x : Int) : Nat → Int := fun j => if j = k then x else f j
theorem upd_row {e q : Nat → Int} {k : Nat} (hk : k < 4) (X Y : Int) : ((row8 e q).set (k * 2) (.int .i64 X)).set (k * 2 + 1) (.int .i64 Y) = row8 (upd e k X) (upd q k Y) := by
 rcases (by omega : k = 0 ∨ k = 1 ∨ k = 2 ∨ k = 3) with rfl | rfl | rfl | rfl <;> rfl
theorem upd_row1 {e q : Nat → Int} {k : Nat} (hk : k < 4) (Y : Int) : (row8 e q).set (k * 2 + 1) (.int .i64 Y) = row8 e (upd q k Y) := by
 rcases (by omega : k = 0 ∨ k = 1 ∨ k = 2 ∨ k = 3) with rfl | rfl | rfl | rfl <;> rfl
theorem blk_upd {W : World} {G : Nat} {t : TypeId} {e q : Nat → Int} (h : Blk W G t (row8 e q)) {k : Nat} (hk : k < 4) (X Y : Int) :
  Blk ((W.setCell ⟨G, k * 2, none⟩ (.int .i64 X)).setCell ⟨G, k * 2 + 1, none⟩ (.int .i64 Y)) G t (row8 (upd e k X) (upd q k Y)) := by
 rw [← upd_row hk]
 exact (h.set (k * 2) _).set (k * 2 + 1) _
theorem blk_upd1 {W : World} {G : Nat} {t : TypeId} {e q : Nat → Int} (h : Blk W G t (row8 e q)) {k : Nat} (hk : k < 4) (Y : Int) :
  Blk (W.setCell ⟨G, k * 2 + 1, none⟩ (.int .i64 Y)) G t (row8 e (upd q k Y)) := by
 rw [← upd_row1 hk]
 exact h.set (k * 2 + 1) _
/-- The cost of state j behind c bits tried. -/
def midC (x y : Nat) (V : Nat → Int) (j : Nat) : Nat → Int
 | 0 => -1
 | 1 => brc x y V j 0
 | _ => brc x y V j (vbit x y V j)
/-- Block G holds the states' steps: the first j are done, the j-th has seen c bits. -/
def StpB (W : World) (G j c : Nat) (x y : Nat) (V : Nat → Int) : Prop := ∃ e q : Nat → Int, Blk W G 178 (row8 e q) ∧ (∀ i, i < j → e i = brc x y V i (vbit x y V i)) ∧ e j = midC x y V j c
theorem StpB.kept {A B : World} {G j c x y : Nat} {V : Nat → Int} (h : StpB A G j c x y V) (hb : Below A.heap.size A B) : StpB B G j c x y V := by
 obtain ⟨e, q, h1, h2⟩ := h
 exact ⟨e, q, h1.kept hb, h2⟩
theorem brc_neg {x y : Nat} {V : Nat → Int} (hV : ∀ i, -1 ≤ V i) {j b : Nat} (h : V (cnx j b) < 0) : brc x y V j b = -1 := by
 have := hV (cnx j b)
 unfold brc
 rw [if_pos h]
 omega
theorem brc_pos {x y : Nat} {V : Nat → Int} {j b : Nat} (h : ¬ V (cnx j b) < 0) : brc x y V j b = msmTo [x, y] [co1 j b, co2 j b] 2 + V (cnx j b) := by
 unfold brc
 rw [if_neg h]
 show _ = (0 + msm x (co1 j b) + msm y (co2 j b)) + _
 omega
theorem mid_last (x y : Nat) (V : Nat → Int) (j : Nat) : midC x y V j 2 = if pick1 (brc x y V j 0) (brc x y V j 1) = true then brc x y V j 1 else brc x y V j 0 := by
 show brc x y V j (vbit x y V j) = _
 unfold vbit
 split <;> rfl
/-- No way: the cost is as it was. -/
theorem mid_skip {x y : Nat} {V : Nat → Int} (hV : ∀ i, -1 ≤ V i) {j b : Nat} (hb : b < 2) (h : V (cnx j b) < 0) : midC x y V j (b + 1) = midC x y V j b := by
 rcases (by omega : b = 0 ∨ b = 1) with rfl | rfl
 ·exact brc_neg hV h
 ·have h1 := brc_neg (x := x) (y := y) hV h
  rw [mid_last]
  show _ = brc x y V j 0
  unfold pick1
  rw [h1]
  by_cases h0 : brc x y V j 0 < 0
  ·rw [if_pos (by simp [h0])]
   have : V (cnx j 0) < 0 := by
    unfold brc at h0
    split at h0
    ·assumption
    ·have := msm_01 x (co1 j 0)
     have := msm_01 y (co2 j 0)
     omega
   rw [brc_neg hV this]
  ·rw [if_neg (by simp; omega)]
/-- A way that costs less. -/
theorem mid_less {x y : Nat} {V : Nat → Int} {j b : Nat} (hb : b < 2) {C : Int} (hC : brc x y V j b = C) (h0 : 0 ≤ C) (h : midC x y V j b < 0 ∨ C < midC x y V j b) : midC x y V j (b + 1) = C := by
 rcases (by omega : b = 0 ∨ b = 1) with rfl | rfl
 ·exact hC
 ·change brc x y V j 0 < 0 ∨ C < brc x y V j 0 at h
  rw [mid_last, hC, if_pos]
  unfold pick1
  simp
  omega
theorem mid_more {x y : Nat} {V : Nat → Int} {j b : Nat} (hb : b < 2) {C : Int} (hC : brc x y V j b = C) (_h0 : 0 ≤ C) (h1 : ¬ midC x y V j b < 0) (h2 : ¬ C < midC x y V j b) : midC x y V j (b + 1) = midC x y V j b := by
 rcases (by omega : b = 0 ∨ b = 1) with rfl | rfl
 ·exact absurd (by show (-1 : Int) < 0; omega) h1
 ·change ¬ brc x y V j 0 < 0 at h1
  change ¬ C < brc x y V j 0 at h2
  rw [mid_last, hC, if_neg]
  ·rfl
  ·unfold pick1
   simp
   omega
theorem mid_bd {x y : Nat} {V : Nat → Int} (hV : ∀ i, -1 ≤ V i ∧ V i ≤ 1000000) (j c : Nat) : -1 ≤ midC x y V j c ∧ midC x y V j c ≤ 1000002 := by
 have hb : ∀ b, -1 ≤ brc x y V j b ∧ brc x y V j b ≤ 1000002 := fun b => by
  have h1 := hV (cnx j b)
  have h2 := msm_01 x (co1 j b)
  have h3 := msm_01 y (co2 j b)
  unfold brc
  split <;> omega
 match c with
 | 0 => show -1 ≤ (-1 : Int) ∧ (-1 : Int) ≤ 1000002; omega
 | 1 => exact hb 0
 | _ + 2 => exact hb _
theorem StpB.less {W : World} {G j c x y : Nat} {V : Nat → Int} (h : StpB W G j c x y V) (hj : j < 4) (X Y : Int) (hX : midC x y V j (c + 1) = X) :
  StpB ((W.setCell ⟨G, j * 2, none⟩ (.int .i64 X)).setCell ⟨G, j * 2 + 1, none⟩ (.int .i64 Y)) G j (c + 1) x y V := by
 obtain ⟨e, q, h1, h2, h3⟩ := h
 refine ⟨_, _, blk_upd h1 hj X Y, fun i hi => ?_, ?_⟩
 ·unfold upd
  rw [if_neg (by omega)]
  exact h2 i hi
 ·unfold upd
  rw [if_pos rfl, hX]
theorem StpB.begin {W : World} {G j c x y : Nat} {V : Nat → Int} (h : StpB W G j c x y V) (hj : j < 4) (Y : Int) :
  StpB ((W.setCell ⟨G, j * 2, none⟩ (.int .i64 (-1))).setCell ⟨G, j * 2 + 1, none⟩ (.int .i64 Y)) G j 0 x y V := by
 obtain ⟨e, q, h1, h2, h3⟩ := h
 refine ⟨_, _, blk_upd h1 hj (-1) Y, fun i hi => ?_, ?_⟩
 ·unfold upd
  rw [if_neg (by omega)]
  exact h2 i hi
 ·unfold upd
  rw [if_pos rfl]
  rfl
theorem StpB.equal {W : World} {G j c x y : Nat} {V : Nat → Int} (h : StpB W G j c x y V) (hj : j < 4) (Y : Int) (hm : midC x y V j (c + 1) = midC x y V j c) :
  StpB (W.setCell ⟨G, j * 2 + 1, none⟩ (.int .i64 Y)) G j (c + 1) x y V := by
 obtain ⟨e, q, h1, h2, h3⟩ := h
 exact ⟨_, _, blk_upd1 h1 hj Y, h2, by rw [hm]; exact h3⟩
theorem StpB.skip {W : World} {G j c x y : Nat} {V : Nat → Int} (h : StpB W G j c x y V) (hm : midC x y V j (c + 1) = midC x y V j c) : StpB W G j (c + 1) x y V := by
 obtain ⟨e, q, h1, h2, h3⟩ := h
 exact ⟨_, _, h1, h2, by rw [hm]; exact h3⟩
/-- The states ahead of j are done. -/
def StpD (W : World) (G j : Nat) (x y : Nat) (V : Nat → Int) : Prop := ∃ e q : Nat → Int, Blk W G 178 (row8 e q) ∧ (∀ i, i < j → e i = brc x y V i (vbit x y V i))
theorem StpD.begin {W : World} {G j x y : Nat} {V : Nat → Int} (h : StpD W G j x y V) (hj : j < 4) (Y : Int) :
  StpB ((W.setCell ⟨G, j * 2, none⟩ (.int .i64 (-1))).setCell ⟨G, j * 2 + 1, none⟩ (.int .i64 Y)) G j 0 x y V := by
 obtain ⟨e, q, h1, h2⟩ := h
 refine ⟨_, _, blk_upd h1 hj (-1) Y, fun i hi => ?_, ?_⟩
 ·unfold upd
  rw [if_neg (by omega)]
  exact h2 i hi
 ·unfold upd
  rw [if_pos rfl]
  rfl
theorem StpB.done {W : World} {G j x y : Nat} {V : Nat → Int} (h : StpB W G j 2 x y V) : StpD W G (j + 1) x y V := by
 obtain ⟨e, q, h1, h2, h3⟩ := h
 refine ⟨e, q, h1, fun i hi => ?_⟩
 rcases (by omega : i < j ∨ i = j) with h | rfl
 ·exact h2 i h
 ·exact h3
end Go.Proofs.YtnlnmfkmbpihhaaGreatDoor

namespace Go.Proofs.YtnlnmfkmbpihhaaGreatDoor
open Go.RowKit

/-- What before keeps beside its result. -/
structure BefW (w W : World) (H : Nat) (V q : Nat → Int) : Prop where
 a : Blk W w.heap.size 178 (row8 V q)
 z : Blk W H 178 (row8 (fun _ => 0) fun _ => 0)
 b : Below w.heap.size w W
theorem BefW.kept {w W W' : World} {H : Nat} {V q : Nat → Int} (h : BefW w W H V q) (hb : Below W.heap.size W W') : BefW w W' H V q := ⟨h.a.kept hb, h.z.kept hb, h.b.trans (hb.mono h.b.size)⟩
theorem BefW.set {w W : World} {H G k : Nat} {V q : Nat → Int} (h : BefW w W H V q) (h1 : w.heap.size < G) (h2 : H ≠ G) (u : Value) : BefW w (W.setCell ⟨G, k, none⟩ u) H V q :=
 ⟨h.a.far (p := ⟨G, k, none⟩) (by show w.heap.size ≠ G; omega) u, h.z.far (p := ⟨G, k, none⟩) h2 u, h.b.setCell (p := ⟨G, k, none⟩) (by show w.heap.size ≤ G; omega) u⟩

set_option maxRecDepth 100000 in
set_option maxHeartbeats 8000000 in
theorem rbefore_any (w : World) (s : ByteArray) (k x y : Nat) (L : List Nat) (hk : 2 * k + 2 ≤ s.size) (hs : s.size ≤ 1000000) (hd : (bs s).drop (2 * k) = x :: y :: L) (V q : Nat → Int) (hV : ∀ i, -1 ≤ V i ∧ V i ≤ 1000000) :
  Calls Tryz.prog 202 #[.string s, .int .i64 (k : Int), .agg (row8 V q).toArray] w fun e w' => ∃ q', e = .returned (.agg (row8 (fun t => brc x y V t (vbit x y V t)) q').toArray) ∧ Below w.heap.size w w' := by
 have HV := Lib.hid hV
 have HM := Lib.hid (fun W j b => rmis_any W s (outS j b) k x y (co1 j b) (co2 j b) L hk hs (bs_outS j b) hd)
 have HN := Lib.hid (fun W j b hj hb => rnext_any W j b hj hb)
 clear hd hV hk hs
 obtain ⟨w1, hw1⟩ : ∃ w1, w.alloc (.cells (row8 V q).toArray 178) = w1 := ⟨_, rfl⟩
 have HZ1 : Hid (w1.heap.size = w.heap.size + 1) := Lib.hid (by rw [← hw1]; simp)
 have HA0 : Hid (Blk w1 w.heap.size 178 (row8 V q) ∧ Below w.heap.size w w1) := Lib.hid (by rw [← hw1]; exact ⟨Blk.new w 178 _, (Below.refl _ _).alloc (Nat.le_refl _) _⟩)
 have HG : Hid (BefW w ((w1.alloc (.cells (row8 (fun _ => 0) fun _ => 0).toArray 178)).alloc (.cells (row8 (fun _ => 0) fun _ => 0).toArray 178)) w1.heap.size V q ∧ StpD ((w1.alloc (.cells (row8 (fun _ => 0) fun _ => 0).toArray 178)).alloc (.cells (row8 (fun _ => 0) fun _ => 0).toArray 178)) (w1.heap.size + 1) 0 x y V) := Lib.hid (by
  have hz : (w1.alloc (.cells (row8 (fun _ => 0) fun _ => 0).toArray 178)).heap.size = w1.heap.size + 1 := by simp
  refine ⟨⟨(HA0.out.1.alloc _).alloc _, (Blk.new w1 178 _).alloc _, (HA0.out.2.alloc HA0.out.2.size _).alloc (by rw [hz, HZ1.out]; omega) _⟩, fun _ => 0, fun _ => 0, ?_, fun i hi => by omega⟩
  have := Blk.new (w1.alloc (.cells (row8 (fun _ => 0) fun _ => 0).toArray 178)) 178 (row8 (fun _ => 0) fun _ => 0)
  rw [hz] at this
  exact this)
 have Hne : Hid (w.heap.size < w1.heap.size + 1 ∧ w1.heap.size ≠ w1.heap.size + 1) := Lib.hid (by rw [HZ1.out]; omega)
 clear HA0
 go_enter Tryz.func202, Tryz.ntmps202
 go_wp2
 clear hw1
 go_loopw [8] (fun v wr => ∃ j : Nat, j ≤ 4 ∧ v = .int .i64 (j : Int) ∧ BefW w wr w1.heap.size V q ∧ StpD wr (w1.heap.size + 1) j x y V) (fun v _ => 4 - (intOf v).toNat)
 case atStart => exact ⟨0, by omega, rfl, HG.out.1, HG.out.2⟩
 case round =>
  obtain ⟨j, hj, rfl, hW, hS⟩ := hrel
  clear HG
  obtain ⟨wo, rfl⟩ : ∃ x, x = wr := ⟨_, rfl⟩
  have HW := Lib.hid hW
  have HS := Lib.hid hS
  clear hW hS
  rcases (by omega : j = 0 ∨ j = 1 ∨ j = 2 ∨ j = 3 ∨ j = 4) with rfl | rfl | rfl | rfl | rfl
  ·rw [show ((0 : Nat) : Int) = 0 from rfl]
   obtain ⟨e0, q0, hb0, he0⟩ := HS.out
   have c0 := hb0.cell (i := 0) (u := .int .i64 (e0 0)) rfl
   have c1 := hb0.cell (i := 1) (u := .int .i64 (q0 0)) rfl
   have f0 := hb0.frozen 0
   have f1 := hb0.frozen 1
   have HB0 : Hid (StpB ((wo.setCell ⟨w1.heap.size + 1, 0, none⟩ (.int .i64 (-1))).setCell ⟨w1.heap.size + 1, 1, none⟩ (.int .i64 0)) (w1.heap.size + 1) 0 0 x y V) := Lib.hid (HS.out.begin (j := 0) (by omega) 0)
   have HW0 := Lib.hid ((HW.out.set Hne.out.1 Hne.out.2 (k := 0) (.int .i64 (-1))).set Hne.out.1 Hne.out.2 (k := 1) (.int .i64 0))
   clear hb0 he0 HW HS
   go_wp2
   clear c0 c1 f0 f1
   go_loopw [9] (fun v wx => ∃ c : Nat, c ≤ 2 ∧ v = .int .i64 (c : Int) ∧ BefW w wx w1.heap.size V q ∧ StpB wx (w1.heap.size + 1) 0 c x y V) (fun v _ => 2 - (intOf v).toNat)
   case atStart => exact ⟨0, by omega, rfl, HW0.out, HB0.out⟩
   case round =>
    obtain ⟨c, hc, rfl, hW, hS⟩ := hrel
    clear HW0 HB0
    have HW := Lib.hid hW
    have HS := Lib.hid hS
    clear hW hS
    rcases (by omega : c = 0 ∨ c = 1 ∨ c = 2) with rfl | rfl | rfl
    ·rw [show ((0 : Nat) : Int) = 0 from rfl]
     have HNc : Hid (∀ W, Calls Tryz.prog 140 #[.int .i64 0, .int .i64 0] W fun e w' => e = .returned (.tuple #[.int .i64 0, .string (outS 0 0)]) ∧ Below W.heap.size W w') := Lib.hid (fun W => HN.out W 0 0 (by omega) (by omega))
     have HMc := Lib.hid (fun W => HM.out W 0 0)
     go_wp2_with fail
     refine (HNc.out _).mono ?_
     rintro e w2 ⟨rfl, hb2⟩
     have HW2 := Lib.hid (HW.out.kept hb2)
     have HS2 := Lib.hid (HS.out.kept hb2)
     clear hb2 HW HS HNc
     have hv := HV.out 0
     have ca := HW2.out.a.cell (i := 0) (u := .int .i64 (V 0)) rfl
     have hskip := fun h : V 0 < 0 => mid_skip (x := x) (y := y) (V := V) (fun i => (HV.out i).1) (j := 0) (b := 0) (by omega) h
     have hC := fun h : ¬ V 0 < 0 => brc_pos (x := x) (y := y) (V := V) (j := 0) (b := 0) h
     have hless := fun C (h1 : brc x y V 0 0 = C) => mid_less (x := x) (y := y) (V := V) (j := 0) (b := 0) (by omega) h1
     have hmore := fun C (h1 : brc x y V 0 0 = C) => mid_more (x := x) (y := y) (V := V) (j := 0) (b := 0) (by omega) h1
     have hmb := msmTo_bd [x, y] [co1 0 0, co2 0 0] 2
     have hEb := mid_bd (x := x) (y := y) (V := V) HV.out 0 0
     have HK := Lib.hid (And.intro hskip (And.intro hC (And.intro hless hmore)))
     clear hskip hC hless hmore
     by_cases hneg : V 0 < 0
     ·have hnegI : decide (V 0 < 0) = true := by simpa using hneg
      have HS3 := Lib.hid (HS2.out.skip (HK.out.1 hneg))
      clear hneg hmb hEb
      go_wp2
      go_roundw
      case rel => exact ⟨1, by omega, by go_num, HW2.out, HS3.out⟩
      case measure => simp [intOf]
     ·have hnegI : decide (V 0 < 0) = false := by simpa using hneg
      have hC := HK.out.2.1 hneg
      have Hless := Lib.hid (HK.out.2.2.1 _ hC)
      have Hmore := Lib.hid (HK.out.2.2.2 _ hC)
      have caq := HW2.out.a.cell (i := 1) (u := .int .i64 (q 0)) rfl
      generalize q 0 = qn at *
      clear HK hC
      change Hid (∀ W, Calls Tryz.prog 141 #[.string s, .int .i64 (k : Int), .string (outS 0 0)] W fun e w' => e = .returned (.int .i64 (msmTo [x, y] [co1 0 0, co2 0 0] 2)) ∧ ∃ m, w' = W.drewN m) at HMc
      change Hid (0 ≤ msmTo [x, y] [co1 0 0, co2 0 0] 2 + V 0 → midC x y V 0 0 < 0 ∨ msmTo [x, y] [co1 0 0, co2 0 0] 2 + V 0 < midC x y V 0 0 → midC x y V 0 1 = msmTo [x, y] [co1 0 0, co2 0 0] 2 + V 0) at Hless
      change Hid (0 ≤ msmTo [x, y] [co1 0 0, co2 0 0] 2 + V 0 → ¬ (midC x y V 0 0 < 0) → ¬ msmTo [x, y] [co1 0 0, co2 0 0] 2 + V 0 < midC x y V 0 0 → midC x y V 0 1 = midC x y V 0 0) at Hmore
      generalize msmTo [x, y] [co1 0 0, co2 0 0] 2 = M at *
      generalize hvn : V 0 = vn at *
      have h0 : 0 ≤ M + vn := by omega
      go_upto_region 11 with fail
      go_quiet (first | (go_at_call 141; refine Calls.quiet_of (HMc.out _)))
      have hd : Below w2.heap.size w2 (w2.drewN nq) := below_drewN (Below.refl _ _) nq
      have HW3 := Lib.hid (HW2.out.kept hd)
      have HS3 := Lib.hid (HS2.out.kept hd)
      clear ca caq hd HW2 HS2 HMc
      generalize w2.drewN nq = wd at *
      obtain ⟨e1, q1, hb1, he1, hm1⟩ := HS3.out
      have c0 := hb1.cell (i := 0) (u := .int .i64 (e1 0)) rfl
      have c1 := hb1.cell (i := 1) (u := .int .i64 (q1 0)) rfl
      have f0 := hb1.frozen 0
      have f1 := hb1.frozen 1
      have ca := HW3.out.a.cell (i := 0) (u := .int .i64 (V 0)) rfl
      have caq := HW3.out.a.cell (i := 1) (u := .int .i64 (q 0)) rfl
      rw [hm1] at c0
      clear hb1 he1 hm1
      rw [hvn] at ca
      generalize q 0 = qn2 at *
      have HL := Lib.hid (fun (h : midC x y V 0 0 < 0 ∨ M + vn < midC x y V 0 0) => HS3.out.less (by omega) (M + vn) qn2 (Hless.out h0 (by omega)))
      have HQ := Lib.hid (fun (h1 : ¬ midC x y V 0 0 < 0) (h2 : ¬ M + vn < midC x y V 0 0) => HS3.out.equal (by omega) 2 (Hmore.out h0 (by omega) (by omega)))
      have HR := Lib.hid (fun (h1 : ¬ midC x y V 0 0 < 0) (h2 : ¬ M + vn < midC x y V 0 0) => HS3.out.skip (Hmore.out h0 (by omega) (by omega)))
      clear Hless Hmore HS3
      generalize midC x y V 0 0 = E at *
      rcases (by omega : E < 0 ∨ (0 ≤ E ∧ M + vn < E) ∨ (0 ≤ E ∧ M + vn = E) ∨ (0 ≤ E ∧ E < M + vn)) with hE | ⟨hE, hE2⟩ | ⟨hE, hE2⟩ | ⟨hE, hE2⟩
      ·have d1 : decide (E < 0) = true := by simpa using hE
       have HX := Lib.hid (HL.out (.inl hE))
       have HWx := Lib.hid ((HW3.out.set Hne.out.1 Hne.out.2 (k := 0) (.int .i64 (M + vn))).set Hne.out.1 Hne.out.2 (k := 1) (.int .i64 qn2))
       clear HL HQ HR hE
       go_wp2
       go_roundw
       case rel => exact ⟨1, by omega, by go_num, HWx.out, HX.out⟩
       case measure => simp [intOf]
      ·have d1 : decide (E < 0) = false := by simpa using hE
       have d2 : decide (M + vn < E) = true := by simpa using hE2
       have HX := Lib.hid (HL.out (.inr hE2))
       have HWx := Lib.hid ((HW3.out.set Hne.out.1 Hne.out.2 (k := 0) (.int .i64 (M + vn))).set Hne.out.1 Hne.out.2 (k := 1) (.int .i64 qn2))
       clear HL HQ HR hE hE2
       go_wp2
       go_roundw
       case rel => exact ⟨1, by omega, by go_num, HWx.out, HX.out⟩
       case measure => simp [intOf]
      ·have d1 : decide (E < 0) = false := by simpa using hE
       have d2 : decide (M + vn < E) = false := by simp; omega
       have d3 : (M + vn == E) = true := by simpa using hE2
       have HX := Lib.hid (HQ.out (by omega) (by omega))
       have HWx := Lib.hid (HW3.out.set Hne.out.1 Hne.out.2 (k := 1) (.int .i64 2))
       clear HL HQ HR hE hE2
       go_wp2
       go_roundw
       case rel => exact ⟨1, by omega, by go_num, HWx.out, HX.out⟩
       case measure => simp [intOf]
      ·have d1 : decide (E < 0) = false := by simpa using hE
       have d2 : decide (M + vn < E) = false := by simp; omega
       have d3 : (M + vn == E) = false := by simp; omega
       have HX := Lib.hid (HR.out (by omega) (by omega))
       clear HL HQ HR hE hE2
       go_wp2
       go_roundw
       case rel => exact ⟨1, by omega, by go_num, HW3.out, HX.out⟩
       case measure => simp [intOf]
    ·rw [show ((1 : Nat) : Int) = 1 from rfl]
     have HNc : Hid (∀ W, Calls Tryz.prog 140 #[.int .i64 0, .int .i64 1] W fun e w' => e = .returned (.tuple #[.int .i64 2, .string (outS 0 1)]) ∧ Below W.heap.size W w') := Lib.hid (fun W => HN.out W 0 1 (by omega) (by omega))
     have HMc := Lib.hid (fun W => HM.out W 0 1)
     go_wp2_with fail
     refine (HNc.out _).mono ?_
     rintro e w2 ⟨rfl, hb2⟩
     have HW2 := Lib.hid (HW.out.kept hb2)
     have HS2 := Lib.hid (HS.out.kept hb2)
     clear hb2 HW HS HNc
     have hv := HV.out 2
     have ca := HW2.out.a.cell (i := 4) (u := .int .i64 (V 2)) rfl
     have hskip := fun h : V 2 < 0 => mid_skip (x := x) (y := y) (V := V) (fun i => (HV.out i).1) (j := 0) (b := 1) (by omega) h
     have hC := fun h : ¬ V 2 < 0 => brc_pos (x := x) (y := y) (V := V) (j := 0) (b := 1) h
     have hless := fun C (h1 : brc x y V 0 1 = C) => mid_less (x := x) (y := y) (V := V) (j := 0) (b := 1) (by omega) h1
     have hmore := fun C (h1 : brc x y V 0 1 = C) => mid_more (x := x) (y := y) (V := V) (j := 0) (b := 1) (by omega) h1
     have hmb := msmTo_bd [x, y] [co1 0 1, co2 0 1] 2
     have hEb := mid_bd (x := x) (y := y) (V := V) HV.out 0 1
     have HK := Lib.hid (And.intro hskip (And.intro hC (And.intro hless hmore)))
     clear hskip hC hless hmore
     by_cases hneg : V 2 < 0
     ·have hnegI : decide (V 2 < 0) = true := by simpa using hneg
      have HS3 := Lib.hid (HS2.out.skip (HK.out.1 hneg))
      clear hneg hmb hEb
      go_wp2
      go_roundw
      case rel => exact ⟨2, by omega, by go_num, HW2.out, HS3.out⟩
      case measure => simp [intOf]
     ·have hnegI : decide (V 2 < 0) = false := by simpa using hneg
      have hC := HK.out.2.1 hneg
      have Hless := Lib.hid (HK.out.2.2.1 _ hC)
      have Hmore := Lib.hid (HK.out.2.2.2 _ hC)
      have caq := HW2.out.a.cell (i := 5) (u := .int .i64 (q 2)) rfl
      generalize q 2 = qn at *
      clear HK hC
      change Hid (∀ W, Calls Tryz.prog 141 #[.string s, .int .i64 (k : Int), .string (outS 0 1)] W fun e w' => e = .returned (.int .i64 (msmTo [x, y] [co1 0 1, co2 0 1] 2)) ∧ ∃ m, w' = W.drewN m) at HMc
      change Hid (0 ≤ msmTo [x, y] [co1 0 1, co2 0 1] 2 + V 2 → midC x y V 0 1 < 0 ∨ msmTo [x, y] [co1 0 1, co2 0 1] 2 + V 2 < midC x y V 0 1 → midC x y V 0 2 = msmTo [x, y] [co1 0 1, co2 0 1] 2 + V 2) at Hless
      change Hid (0 ≤ msmTo [x, y] [co1 0 1, co2 0 1] 2 + V 2 → ¬ (midC x y V 0 1 < 0) → ¬ msmTo [x, y] [co1 0 1, co2 0 1] 2 + V 2 < midC x y V 0 1 → midC x y V 0 2 = midC x y V 0 1) at Hmore
      generalize msmTo [x, y] [co1 0 1, co2 0 1] 2 = M at *
      generalize hvn : V 2 = vn at *
      have h0 : 0 ≤ M + vn := by omega
      go_upto_region 11 with fail
      go_quiet (first | (go_at_call 141; refine Calls.quiet_of (HMc.out _)))
      have hd : Below w2.heap.size w2 (w2.drewN nq) := below_drewN (Below.refl _ _) nq
      have HW3 := Lib.hid (HW2.out.kept hd)
      have HS3 := Lib.hid (HS2.out.kept hd)
      clear ca caq hd HW2 HS2 HMc
      generalize w2.drewN nq = wd at *
      obtain ⟨e1, q1, hb1, he1, hm1⟩ := HS3.out
      have c0 := hb1.cell (i := 0) (u := .int .i64 (e1 0)) rfl
      have c1 := hb1.cell (i := 1) (u := .int .i64 (q1 0)) rfl
      have f0 := hb1.frozen 0
      have f1 := hb1.frozen 1
      have ca := HW3.out.a.cell (i := 4) (u := .int .i64 (V 2)) rfl
      have caq := HW3.out.a.cell (i := 5) (u := .int .i64 (q 2)) rfl
      rw [hm1] at c0
      clear hb1 he1 hm1
      rw [hvn] at ca
      generalize q 2 = qn2 at *
      have HL := Lib.hid (fun (h : midC x y V 0 1 < 0 ∨ M + vn < midC x y V 0 1) => HS3.out.less (by omega) (M + vn) qn2 (Hless.out h0 (by omega)))
      have HQ := Lib.hid (fun (h1 : ¬ midC x y V 0 1 < 0) (h2 : ¬ M + vn < midC x y V 0 1) => HS3.out.equal (by omega) 2 (Hmore.out h0 (by omega) (by omega)))
      have HR := Lib.hid (fun (h1 : ¬ midC x y V 0 1 < 0) (h2 : ¬ M + vn < midC x y V 0 1) => HS3.out.skip (Hmore.out h0 (by omega) (by omega)))
      clear Hless Hmore HS3
      generalize midC x y V 0 1 = E at *
      rcases (by omega : E < 0 ∨ (0 ≤ E ∧ M + vn < E) ∨ (0 ≤ E ∧ M + vn = E) ∨ (0 ≤ E ∧ E < M + vn)) with hE | ⟨hE, hE2⟩ | ⟨hE, hE2⟩ | ⟨hE, hE2⟩
      ·have d1 : decide (E < 0) = true := by simpa using hE
       have HX := Lib.hid (HL.out (.inl hE))
       have HWx := Lib.hid ((HW3.out.set Hne.out.1 Hne.out.2 (k := 0) (.int .i64 (M + vn))).set Hne.out.1 Hne.out.2 (k := 1) (.int .i64 qn2))
       clear HL HQ HR hE
       go_wp2
       go_roundw
       case rel => exact ⟨2, by omega, by go_num, HWx.out, HX.out⟩
       case measure => simp [intOf]
      ·have d1 : decide (E < 0) = false := by simpa using hE
       have d2 : decide (M + vn < E) = true := by simpa using hE2
       have HX := Lib.hid (HL.out (.inr hE2))
       have HWx := Lib.hid ((HW3.out.set Hne.out.1 Hne.out.2 (k := 0) (.int .i64 (M + vn))).set Hne.out.1 Hne.out.2 (k := 1) (.int .i64 qn2))
       clear HL HQ HR hE hE2
       go_wp2
       go_roundw
       case rel => exact ⟨2, by omega, by go_num, HWx.out, HX.out⟩
       case measure => simp [intOf]
      ·have d1 : decide (E < 0) = false := by simpa using hE
       have d2 : decide (M + vn < E) = false := by simp; omega
       have d3 : (M + vn == E) = true := by simpa using hE2
       have HX := Lib.hid (HQ.out (by omega) (by omega))
       have HWx := Lib.hid (HW3.out.set Hne.out.1 Hne.out.2 (k := 1) (.int .i64 2))
       clear HL HQ HR hE hE2
       go_wp2
       go_roundw
       case rel => exact ⟨2, by omega, by go_num, HWx.out, HX.out⟩
       case measure => simp [intOf]
      ·have d1 : decide (E < 0) = false := by simpa using hE
       have d2 : decide (M + vn < E) = false := by simp; omega
       have d3 : (M + vn == E) = false := by simp; omega
       have HX := Lib.hid (HR.out (by omega) (by omega))
       clear HL HQ HR hE hE2
       go_wp2
       go_roundw
       case rel => exact ⟨2, by omega, by go_num, HW3.out, HX.out⟩
       case measure => simp [intOf]
    ·rw [show ((2 : Nat) : Int) = 2 from rfl]
     go_wp2
     go_roundw
     case rel => exact ⟨1, by omega, by go_num, HW.out, HS.out.done⟩
     case measure => simp [intOf]
  ·rw [show ((1 : Nat) : Int) = 1 from rfl]
   obtain ⟨e0, q0, hb0, he0⟩ := HS.out
   have c0 := hb0.cell (i := 2) (u := .int .i64 (e0 1)) rfl
   have c1 := hb0.cell (i := 3) (u := .int .i64 (q0 1)) rfl
   have f0 := hb0.frozen 2
   have f1 := hb0.frozen 3
   have HB0 : Hid (StpB ((wo.setCell ⟨w1.heap.size + 1, 2, none⟩ (.int .i64 (-1))).setCell ⟨w1.heap.size + 1, 3, none⟩ (.int .i64 0)) (w1.heap.size + 1) 1 0 x y V) := Lib.hid (HS.out.begin (j := 1) (by omega) 0)
   have HW0 := Lib.hid ((HW.out.set Hne.out.1 Hne.out.2 (k := 2) (.int .i64 (-1))).set Hne.out.1 Hne.out.2 (k := 3) (.int .i64 0))
   clear hb0 he0 HW HS
   go_wp2
   clear c0 c1 f0 f1
   go_loopw [9] (fun v wx => ∃ c : Nat, c ≤ 2 ∧ v = .int .i64 (c : Int) ∧ BefW w wx w1.heap.size V q ∧ StpB wx (w1.heap.size + 1) 1 c x y V) (fun v _ => 2 - (intOf v).toNat)
   case atStart => exact ⟨0, by omega, rfl, HW0.out, HB0.out⟩
   case round =>
    obtain ⟨c, hc, rfl, hW, hS⟩ := hrel
    clear HW0 HB0
    have HW := Lib.hid hW
    have HS := Lib.hid hS
    clear hW hS
    rcases (by omega : c = 0 ∨ c = 1 ∨ c = 2) with rfl | rfl | rfl
    ·rw [show ((0 : Nat) : Int) = 0 from rfl]
     have HNc : Hid (∀ W, Calls Tryz.prog 140 #[.int .i64 1, .int .i64 0] W fun e w' => e = .returned (.tuple #[.int .i64 0, .string (outS 1 0)]) ∧ Below W.heap.size W w') := Lib.hid (fun W => HN.out W 1 0 (by omega) (by omega))
     have HMc := Lib.hid (fun W => HM.out W 1 0)
     go_wp2_with fail
     refine (HNc.out _).mono ?_
     rintro e w2 ⟨rfl, hb2⟩
     have HW2 := Lib.hid (HW.out.kept hb2)
     have HS2 := Lib.hid (HS.out.kept hb2)
     clear hb2 HW HS HNc
     have hv := HV.out 0
     have ca := HW2.out.a.cell (i := 0) (u := .int .i64 (V 0)) rfl
     have hskip := fun h : V 0 < 0 => mid_skip (x := x) (y := y) (V := V) (fun i => (HV.out i).1) (j := 1) (b := 0) (by omega) h
     have hC := fun h : ¬ V 0 < 0 => brc_pos (x := x) (y := y) (V := V) (j := 1) (b := 0) h
     have hless := fun C (h1 : brc x y V 1 0 = C) => mid_less (x := x) (y := y) (V := V) (j := 1) (b := 0) (by omega) h1
     have hmore := fun C (h1 : brc x y V 1 0 = C) => mid_more (x := x) (y := y) (V := V) (j := 1) (b := 0) (by omega) h1
     have hmb := msmTo_bd [x, y] [co1 1 0, co2 1 0] 2
     have hEb := mid_bd (x := x) (y := y) (V := V) HV.out 1 0
     have HK := Lib.hid (And.intro hskip (And.intro hC (And.intro hless hmore)))
     clear hskip hC hless hmore
     by_cases hneg : V 0 < 0
     ·have hnegI : decide (V 0 < 0) = true := by simpa using hneg
      have HS3 := Lib.hid (HS2.out.skip (HK.out.1 hneg))
      clear hneg hmb hEb
      go_wp2
      go_roundw
      case rel => exact ⟨1, by omega, by go_num, HW2.out, HS3.out⟩
      case measure => simp [intOf]
     ·have hnegI : decide (V 0 < 0) = false := by simpa using hneg
      have hC := HK.out.2.1 hneg
      have Hless := Lib.hid (HK.out.2.2.1 _ hC)
      have Hmore := Lib.hid (HK.out.2.2.2 _ hC)
      have caq := HW2.out.a.cell (i := 1) (u := .int .i64 (q 0)) rfl
      generalize q 0 = qn at *
      clear HK hC
      change Hid (∀ W, Calls Tryz.prog 141 #[.string s, .int .i64 (k : Int), .string (outS 1 0)] W fun e w' => e = .returned (.int .i64 (msmTo [x, y] [co1 1 0, co2 1 0] 2)) ∧ ∃ m, w' = W.drewN m) at HMc
      change Hid (0 ≤ msmTo [x, y] [co1 1 0, co2 1 0] 2 + V 0 → midC x y V 1 0 < 0 ∨ msmTo [x, y] [co1 1 0, co2 1 0] 2 + V 0 < midC x y V 1 0 → midC x y V 1 1 = msmTo [x, y] [co1 1 0, co2 1 0] 2 + V 0) at Hless
      change Hid (0 ≤ msmTo [x, y] [co1 1 0, co2 1 0] 2 + V 0 → ¬ (midC x y V 1 0 < 0) → ¬ msmTo [x, y] [co1 1 0, co2 1 0] 2 + V 0 < midC x y V 1 0 → midC x y V 1 1 = midC x y V 1 0) at Hmore
      generalize msmTo [x, y] [co1 1 0, co2 1 0] 2 = M at *
      generalize hvn : V 0 = vn at *
      have h0 : 0 ≤ M + vn := by omega
      go_upto_region 11 with fail
      go_quiet (first | (go_at_call 141; refine Calls.quiet_of (HMc.out _)))
      have hd : Below w2.heap.size w2 (w2.drewN nq) := below_drewN (Below.refl _ _) nq
      have HW3 := Lib.hid (HW2.out.kept hd)
      have HS3 := Lib.hid (HS2.out.kept hd)
      clear ca caq hd HW2 HS2 HMc
      generalize w2.drewN nq = wd at *
      obtain ⟨e1, q1, hb1, he1, hm1⟩ := HS3.out
      have c0 := hb1.cell (i := 2) (u := .int .i64 (e1 1)) rfl
      have c1 := hb1.cell (i := 3) (u := .int .i64 (q1 1)) rfl
      have f0 := hb1.frozen 2
      have f1 := hb1.frozen 3
      have ca := HW3.out.a.cell (i := 0) (u := .int .i64 (V 0)) rfl
      have caq := HW3.out.a.cell (i := 1) (u := .int .i64 (q 0)) rfl
      rw [hm1] at c0
      clear hb1 he1 hm1
      rw [hvn] at ca
      generalize q 0 = qn2 at *
      have HL := Lib.hid (fun (h : midC x y V 1 0 < 0 ∨ M + vn < midC x y V 1 0) => HS3.out.less (by omega) (M + vn) qn2 (Hless.out h0 (by omega)))
      have HQ := Lib.hid (fun (h1 : ¬ midC x y V 1 0 < 0) (h2 : ¬ M + vn < midC x y V 1 0) => HS3.out.equal (by omega) 2 (Hmore.out h0 (by omega) (by omega)))
      have HR := Lib.hid (fun (h1 : ¬ midC x y V 1 0 < 0) (h2 : ¬ M + vn < midC x y V 1 0) => HS3.out.skip (Hmore.out h0 (by omega) (by omega)))
      clear Hless Hmore HS3
      generalize midC x y V 1 0 = E at *
      rcases (by omega : E < 0 ∨ (0 ≤ E ∧ M + vn < E) ∨ (0 ≤ E ∧ M + vn = E) ∨ (0 ≤ E ∧ E < M + vn)) with hE | ⟨hE, hE2⟩ | ⟨hE, hE2⟩ | ⟨hE, hE2⟩
      ·have d1 : decide (E < 0) = true := by simpa using hE
       have HX := Lib.hid (HL.out (.inl hE))
       have HWx := Lib.hid ((HW3.out.set Hne.out.1 Hne.out.2 (k := 2) (.int .i64 (M + vn))).set Hne.out.1 Hne.out.2 (k := 3) (.int .i64 qn2))
       clear HL HQ HR hE
       go_wp2
       go_roundw
       case rel => exact ⟨1, by omega, by go_num, HWx.out, HX.out⟩
       case measure => simp [intOf]
      ·have d1 : decide (E < 0) = false := by simpa using hE
       have d2 : decide (M + vn < E) = true := by simpa using hE2
       have HX := Lib.hid (HL.out (.inr hE2))
       have HWx := Lib.hid ((HW3.out.set Hne.out.1 Hne.out.2 (k := 2) (.int .i64 (M + vn))).set Hne.out.1 Hne.out.2 (k := 3) (.int .i64 qn2))
       clear HL HQ HR hE hE2
       go_wp2
       go_roundw
       case rel => exact ⟨1, by omega, by go_num, HWx.out, HX.out⟩
       case measure => simp [intOf]
      ·have d1 : decide (E < 0) = false := by simpa using hE
       have d2 : decide (M + vn < E) = false := by simp; omega
       have d3 : (M + vn == E) = true := by simpa using hE2
       have HX := Lib.hid (HQ.out (by omega) (by omega))
       have HWx := Lib.hid (HW3.out.set Hne.out.1 Hne.out.2 (k := 3) (.int .i64 2))
       clear HL HQ HR hE hE2
       go_wp2
       go_roundw
       case rel => exact ⟨1, by omega, by go_num, HWx.out, HX.out⟩
       case measure => simp [intOf]
      ·have d1 : decide (E < 0) = false := by simpa using hE
       have d2 : decide (M + vn < E) = false := by simp; omega
       have d3 : (M + vn == E) = false := by simp; omega
       have HX := Lib.hid (HR.out (by omega) (by omega))
       clear HL HQ HR hE hE2
       go_wp2
       go_roundw
       case rel => exact ⟨1, by omega, by go_num, HW3.out, HX.out⟩
       case measure => simp [intOf]
    ·rw [show ((1 : Nat) : Int) = 1 from rfl]
     have HNc : Hid (∀ W, Calls Tryz.prog 140 #[.int .i64 1, .int .i64 1] W fun e w' => e = .returned (.tuple #[.int .i64 2, .string (outS 1 1)]) ∧ Below W.heap.size W w') := Lib.hid (fun W => HN.out W 1 1 (by omega) (by omega))
     have HMc := Lib.hid (fun W => HM.out W 1 1)
     go_wp2_with fail
     refine (HNc.out _).mono ?_
     rintro e w2 ⟨rfl, hb2⟩
     have HW2 := Lib.hid (HW.out.kept hb2)
     have HS2 := Lib.hid (HS.out.kept hb2)
     clear hb2 HW HS HNc
     have hv := HV.out 2
     have ca := HW2.out.a.cell (i := 4) (u := .int .i64 (V 2)) rfl
     have hskip := fun h : V 2 < 0 => mid_skip (x := x) (y := y) (V := V) (fun i => (HV.out i).1) (j := 1) (b := 1) (by omega) h
     have hC := fun h : ¬ V 2 < 0 => brc_pos (x := x) (y := y) (V := V) (j := 1) (b := 1) h
     have hless := fun C (h1 : brc x y V 1 1 = C) => mid_less (x := x) (y := y) (V := V) (j := 1) (b := 1) (by omega) h1
     have hmore := fun C (h1 : brc x y V 1 1 = C) => mid_more (x := x) (y := y) (V := V) (j := 1) (b := 1) (by omega) h1
     have hmb := msmTo_bd [x, y] [co1 1 1, co2 1 1] 2
     have hEb := mid_bd (x := x) (y := y) (V := V) HV.out 1 1
     have HK := Lib.hid (And.intro hskip (And.intro hC (And.intro hless hmore)))
     clear hskip hC hless hmore
     by_cases hneg : V 2 < 0
     ·have hnegI : decide (V 2 < 0) = true := by simpa using hneg
      have HS3 := Lib.hid (HS2.out.skip (HK.out.1 hneg))
      clear hneg hmb hEb
      go_wp2
      go_roundw
      case rel => exact ⟨2, by omega, by go_num, HW2.out, HS3.out⟩
      case measure => simp [intOf]
     ·have hnegI : decide (V 2 < 0) = false := by simpa using hneg
      have hC := HK.out.2.1 hneg
      have Hless := Lib.hid (HK.out.2.2.1 _ hC)
      have Hmore := Lib.hid (HK.out.2.2.2 _ hC)
      have caq := HW2.out.a.cell (i := 5) (u := .int .i64 (q 2)) rfl
      generalize q 2 = qn at *
      clear HK hC
      change Hid (∀ W, Calls Tryz.prog 141 #[.string s, .int .i64 (k : Int), .string (outS 1 1)] W fun e w' => e = .returned (.int .i64 (msmTo [x, y] [co1 1 1, co2 1 1] 2)) ∧ ∃ m, w' = W.drewN m) at HMc
      change Hid (0 ≤ msmTo [x, y] [co1 1 1, co2 1 1] 2 + V 2 → midC x y V 1 1 < 0 ∨ msmTo [x, y] [co1 1 1, co2 1 1] 2 + V 2 < midC x y V 1 1 → midC x y V 1 2 = msmTo [x, y] [co1 1 1, co2 1 1] 2 + V 2) at Hless
      change Hid (0 ≤ msmTo [x, y] [co1 1 1, co2 1 1] 2 + V 2 → ¬ (midC x y V 1 1 < 0) → ¬ msmTo [x, y] [co1 1 1, co2 1 1] 2 + V 2 < midC x y V 1 1 → midC x y V 1 2 = midC x y V 1 1) at Hmore
      generalize msmTo [x, y] [co1 1 1, co2 1 1] 2 = M at *
      generalize hvn : V 2 = vn at *
      have h0 : 0 ≤ M + vn := by omega
      go_upto_region 11 with fail
      go_quiet (first | (go_at_call 141; refine Calls.quiet_of (HMc.out _)))
      have hd : Below w2.heap.size w2 (w2.drewN nq) := below_drewN (Below.refl _ _) nq
      have HW3 := Lib.hid (HW2.out.kept hd)
      have HS3 := Lib.hid (HS2.out.kept hd)
      clear ca caq hd HW2 HS2 HMc
      generalize w2.drewN nq = wd at *
      obtain ⟨e1, q1, hb1, he1, hm1⟩ := HS3.out
      have c0 := hb1.cell (i := 2) (u := .int .i64 (e1 1)) rfl
      have c1 := hb1.cell (i := 3) (u := .int .i64 (q1 1)) rfl
      have f0 := hb1.frozen 2
      have f1 := hb1.frozen 3
      have ca := HW3.out.a.cell (i := 4) (u := .int .i64 (V 2)) rfl
      have caq := HW3.out.a.cell (i := 5) (u := .int .i64 (q 2)) rfl
      rw [hm1] at c0
      clear hb1 he1 hm1
      rw [hvn] at ca
      generalize q 2 = qn2 at *
      have HL := Lib.hid (fun (h : midC x y V 1 1 < 0 ∨ M + vn < midC x y V 1 1) => HS3.out.less (by omega) (M + vn) qn2 (Hless.out h0 (by omega)))
      have HQ := Lib.hid (fun (h1 : ¬ midC x y V 1 1 < 0) (h2 : ¬ M + vn < midC x y V 1 1) => HS3.out.equal (by omega) 2 (Hmore.out h0 (by omega) (by omega)))
      have HR := Lib.hid (fun (h1 : ¬ midC x y V 1 1 < 0) (h2 : ¬ M + vn < midC x y V 1 1) => HS3.out.skip (Hmore.out h0 (by omega) (by omega)))
      clear Hless Hmore HS3
      generalize midC x y V 1 1 = E at *
      rcases (by omega : E < 0 ∨ (0 ≤ E ∧ M + vn < E) ∨ (0 ≤ E ∧ M + vn = E) ∨ (0 ≤ E ∧ E < M + vn)) with hE | ⟨hE, hE2⟩ | ⟨hE, hE2⟩ | ⟨hE, hE2⟩
      ·have d1 : decide (E < 0) = true := by simpa using hE
       have HX := Lib.hid (HL.out (.inl hE))
       have HWx := Lib.hid ((HW3.out.set Hne.out.1 Hne.out.2 (k := 2) (.int .i64 (M + vn))).set Hne.out.1 Hne.out.2 (k := 3) (.int .i64 qn2))
       clear HL HQ HR hE
       go_wp2
       go_roundw
       case rel => exact ⟨2, by omega, by go_num, HWx.out, HX.out⟩
       case measure => simp [intOf]
      ·have d1 : decide (E < 0) = false := by simpa using hE
       have d2 : decide (M + vn < E) = true := by simpa using hE2
       have HX := Lib.hid (HL.out (.inr hE2))
       have HWx := Lib.hid ((HW3.out.set Hne.out.1 Hne.out.2 (k := 2) (.int .i64 (M + vn))).set Hne.out.1 Hne.out.2 (k := 3) (.int .i64 qn2))
       clear HL HQ HR hE hE2
       go_wp2
       go_roundw
       case rel => exact ⟨2, by omega, by go_num, HWx.out, HX.out⟩
       case measure => simp [intOf]
      ·have d1 : decide (E < 0) = false := by simpa using hE
       have d2 : decide (M + vn < E) = false := by simp; omega
       have d3 : (M + vn == E) = true := by simpa using hE2
       have HX := Lib.hid (HQ.out (by omega) (by omega))
       have HWx := Lib.hid (HW3.out.set Hne.out.1 Hne.out.2 (k := 3) (.int .i64 2))
       clear HL HQ HR hE hE2
       go_wp2
       go_roundw
       case rel => exact ⟨2, by omega, by go_num, HWx.out, HX.out⟩
       case measure => simp [intOf]
      ·have d1 : decide (E < 0) = false := by simpa using hE
       have d2 : decide (M + vn < E) = false := by simp; omega
       have d3 : (M + vn == E) = false := by simp; omega
       have HX := Lib.hid (HR.out (by omega) (by omega))
       clear HL HQ HR hE hE2
       go_wp2
       go_roundw
       case rel => exact ⟨2, by omega, by go_num, HW3.out, HX.out⟩
       case measure => simp [intOf]
    ·rw [show ((2 : Nat) : Int) = 2 from rfl]
     go_wp2
     go_roundw
     case rel => exact ⟨2, by omega, by go_num, HW.out, HS.out.done⟩
     case measure => simp [intOf]
  ·rw [show ((2 : Nat) : Int) = 2 from rfl]
   obtain ⟨e0, q0, hb0, he0⟩ := HS.out
   have c0 := hb0.cell (i := 4) (u := .int .i64 (e0 2)) rfl
   have c1 := hb0.cell (i := 5) (u := .int .i64 (q0 2)) rfl
   have f0 := hb0.frozen 4
   have f1 := hb0.frozen 5
   have HB0 : Hid (StpB ((wo.setCell ⟨w1.heap.size + 1, 4, none⟩ (.int .i64 (-1))).setCell ⟨w1.heap.size + 1, 5, none⟩ (.int .i64 0)) (w1.heap.size + 1) 2 0 x y V) := Lib.hid (HS.out.begin (j := 2) (by omega) 0)
   have HW0 := Lib.hid ((HW.out.set Hne.out.1 Hne.out.2 (k := 4) (.int .i64 (-1))).set Hne.out.1 Hne.out.2 (k := 5) (.int .i64 0))
   clear hb0 he0 HW HS
   go_wp2
   clear c0 c1 f0 f1
   go_loopw [9] (fun v wx => ∃ c : Nat, c ≤ 2 ∧ v = .int .i64 (c : Int) ∧ BefW w wx w1.heap.size V q ∧ StpB wx (w1.heap.size + 1) 2 c x y V) (fun v _ => 2 - (intOf v).toNat)
   case atStart => exact ⟨0, by omega, rfl, HW0.out, HB0.out⟩
   case round =>
    obtain ⟨c, hc, rfl, hW, hS⟩ := hrel
    clear HW0 HB0
    have HW := Lib.hid hW
    have HS := Lib.hid hS
    clear hW hS
    rcases (by omega : c = 0 ∨ c = 1 ∨ c = 2) with rfl | rfl | rfl
    ·rw [show ((0 : Nat) : Int) = 0 from rfl]
     have HNc : Hid (∀ W, Calls Tryz.prog 140 #[.int .i64 2, .int .i64 0] W fun e w' => e = .returned (.tuple #[.int .i64 1, .string (outS 2 0)]) ∧ Below W.heap.size W w') := Lib.hid (fun W => HN.out W 2 0 (by omega) (by omega))
     have HMc := Lib.hid (fun W => HM.out W 2 0)
     go_wp2_with fail
     refine (HNc.out _).mono ?_
     rintro e w2 ⟨rfl, hb2⟩
     have HW2 := Lib.hid (HW.out.kept hb2)
     have HS2 := Lib.hid (HS.out.kept hb2)
     clear hb2 HW HS HNc
     have hv := HV.out 1
     have ca := HW2.out.a.cell (i := 2) (u := .int .i64 (V 1)) rfl
     have hskip := fun h : V 1 < 0 => mid_skip (x := x) (y := y) (V := V) (fun i => (HV.out i).1) (j := 2) (b := 0) (by omega) h
     have hC := fun h : ¬ V 1 < 0 => brc_pos (x := x) (y := y) (V := V) (j := 2) (b := 0) h
     have hless := fun C (h1 : brc x y V 2 0 = C) => mid_less (x := x) (y := y) (V := V) (j := 2) (b := 0) (by omega) h1
     have hmore := fun C (h1 : brc x y V 2 0 = C) => mid_more (x := x) (y := y) (V := V) (j := 2) (b := 0) (by omega) h1
     have hmb := msmTo_bd [x, y] [co1 2 0, co2 2 0] 2
     have hEb := mid_bd (x := x) (y := y) (V := V) HV.out 2 0
     have HK := Lib.hid (And.intro hskip (And.intro hC (And.intro hless hmore)))
     clear hskip hC hless hmore
     by_cases hneg : V 1 < 0
     ·have hnegI : decide (V 1 < 0) = true := by simpa using hneg
      have HS3 := Lib.hid (HS2.out.skip (HK.out.1 hneg))
      clear hneg hmb hEb
      go_wp2
      go_roundw
      case rel => exact ⟨1, by omega, by go_num, HW2.out, HS3.out⟩
      case measure => simp [intOf]
     ·have hnegI : decide (V 1 < 0) = false := by simpa using hneg
      have hC := HK.out.2.1 hneg
      have Hless := Lib.hid (HK.out.2.2.1 _ hC)
      have Hmore := Lib.hid (HK.out.2.2.2 _ hC)
      have caq := HW2.out.a.cell (i := 3) (u := .int .i64 (q 1)) rfl
      generalize q 1 = qn at *
      clear HK hC
      change Hid (∀ W, Calls Tryz.prog 141 #[.string s, .int .i64 (k : Int), .string (outS 2 0)] W fun e w' => e = .returned (.int .i64 (msmTo [x, y] [co1 2 0, co2 2 0] 2)) ∧ ∃ m, w' = W.drewN m) at HMc
      change Hid (0 ≤ msmTo [x, y] [co1 2 0, co2 2 0] 2 + V 1 → midC x y V 2 0 < 0 ∨ msmTo [x, y] [co1 2 0, co2 2 0] 2 + V 1 < midC x y V 2 0 → midC x y V 2 1 = msmTo [x, y] [co1 2 0, co2 2 0] 2 + V 1) at Hless
      change Hid (0 ≤ msmTo [x, y] [co1 2 0, co2 2 0] 2 + V 1 → ¬ (midC x y V 2 0 < 0) → ¬ msmTo [x, y] [co1 2 0, co2 2 0] 2 + V 1 < midC x y V 2 0 → midC x y V 2 1 = midC x y V 2 0) at Hmore
      generalize msmTo [x, y] [co1 2 0, co2 2 0] 2 = M at *
      generalize hvn : V 1 = vn at *
      have h0 : 0 ≤ M + vn := by omega
      go_upto_region 11 with fail
      go_quiet (first | (go_at_call 141; refine Calls.quiet_of (HMc.out _)))
      have hd : Below w2.heap.size w2 (w2.drewN nq) := below_drewN (Below.refl _ _) nq
      have HW3 := Lib.hid (HW2.out.kept hd)
      have HS3 := Lib.hid (HS2.out.kept hd)
      clear ca caq hd HW2 HS2 HMc
      generalize w2.drewN nq = wd at *
      obtain ⟨e1, q1, hb1, he1, hm1⟩ := HS3.out
      have c0 := hb1.cell (i := 4) (u := .int .i64 (e1 2)) rfl
      have c1 := hb1.cell (i := 5) (u := .int .i64 (q1 2)) rfl
      have f0 := hb1.frozen 4
      have f1 := hb1.frozen 5
      have ca := HW3.out.a.cell (i := 2) (u := .int .i64 (V 1)) rfl
      have caq := HW3.out.a.cell (i := 3) (u := .int .i64 (q 1)) rfl
      rw [hm1] at c0
      clear hb1 he1 hm1
      rw [hvn] at ca
      generalize q 1 = qn2 at *
      have HL := Lib.hid (fun (h : midC x y V 2 0 < 0 ∨ M + vn < midC x y V 2 0) => HS3.out.less (by omega) (M + vn) qn2 (Hless.out h0 (by omega)))
      have HQ := Lib.hid (fun (h1 : ¬ midC x y V 2 0 < 0) (h2 : ¬ M + vn < midC x y V 2 0) => HS3.out.equal (by omega) 2 (Hmore.out h0 (by omega) (by omega)))
      have HR := Lib.hid (fun (h1 : ¬ midC x y V 2 0 < 0) (h2 : ¬ M + vn < midC x y V 2 0) => HS3.out.skip (Hmore.out h0 (by omega) (by omega)))
      clear Hless Hmore HS3
      generalize midC x y V 2 0 = E at *
      rcases (by omega : E < 0 ∨ (0 ≤ E ∧ M + vn < E) ∨ (0 ≤ E ∧ M + vn = E) ∨ (0 ≤ E ∧ E < M + vn)) with hE | ⟨hE, hE2⟩ | ⟨hE, hE2⟩ | ⟨hE, hE2⟩
      ·have d1 : decide (E < 0) = true := by simpa using hE
       have HX := Lib.hid (HL.out (.inl hE))
       have HWx := Lib.hid ((HW3.out.set Hne.out.1 Hne.out.2 (k := 4) (.int .i64 (M + vn))).set Hne.out.1 Hne.out.2 (k := 5) (.int .i64 qn2))
       clear HL HQ HR hE
       go_wp2
       go_roundw
       case rel => exact ⟨1, by omega, by go_num, HWx.out, HX.out⟩
       case measure => simp [intOf]
      ·have d1 : decide (E < 0) = false := by simpa using hE
       have d2 : decide (M + vn < E) = true := by simpa using hE2
       have HX := Lib.hid (HL.out (.inr hE2))
       have HWx := Lib.hid ((HW3.out.set Hne.out.1 Hne.out.2 (k := 4) (.int .i64 (M + vn))).set Hne.out.1 Hne.out.2 (k := 5) (.int .i64 qn2))
       clear HL HQ HR hE hE2
       go_wp2
       go_roundw
       case rel => exact ⟨1, by omega, by go_num, HWx.out, HX.out⟩
       case measure => simp [intOf]
      ·have d1 : decide (E < 0) = false := by simpa using hE
       have d2 : decide (M + vn < E) = false := by simp; omega
       have d3 : (M + vn == E) = true := by simpa using hE2
       have HX := Lib.hid (HQ.out (by omega) (by omega))
       have HWx := Lib.hid (HW3.out.set Hne.out.1 Hne.out.2 (k := 5) (.int .i64 2))
       clear HL HQ HR hE hE2
       go_wp2
       go_roundw
       case rel => exact ⟨1, by omega, by go_num, HWx.out, HX.out⟩
       case measure => simp [intOf]
      ·have d1 : decide (E < 0) = false := by simpa using hE
       have d2 : decide (M + vn < E) = false := by simp; omega
       have d3 : (M + vn == E) = false := by simp; omega
       have HX := Lib.hid (HR.out (by omega) (by omega))
       clear HL HQ HR hE hE2
       go_wp2
       go_roundw
       case rel => exact ⟨1, by omega, by go_num, HW3.out, HX.out⟩
       case measure => simp [intOf]
    ·rw [show ((1 : Nat) : Int) = 1 from rfl]
     have HNc : Hid (∀ W, Calls Tryz.prog 140 #[.int .i64 2, .int .i64 1] W fun e w' => e = .returned (.tuple #[.int .i64 3, .string (outS 2 1)]) ∧ Below W.heap.size W w') := Lib.hid (fun W => HN.out W 2 1 (by omega) (by omega))
     have HMc := Lib.hid (fun W => HM.out W 2 1)
     go_wp2_with fail
     refine (HNc.out _).mono ?_
     rintro e w2 ⟨rfl, hb2⟩
     have HW2 := Lib.hid (HW.out.kept hb2)
     have HS2 := Lib.hid (HS.out.kept hb2)
     clear hb2 HW HS HNc
     have hv := HV.out 3
     have ca := HW2.out.a.cell (i := 6) (u := .int .i64 (V 3)) rfl
     have hskip := fun h : V 3 < 0 => mid_skip (x := x) (y := y) (V := V) (fun i => (HV.out i).1) (j := 2) (b := 1) (by omega) h
     have hC := fun h : ¬ V 3 < 0 => brc_pos (x := x) (y := y) (V := V) (j := 2) (b := 1) h
     have hless := fun C (h1 : brc x y V 2 1 = C) => mid_less (x := x) (y := y) (V := V) (j := 2) (b := 1) (by omega) h1
     have hmore := fun C (h1 : brc x y V 2 1 = C) => mid_more (x := x) (y := y) (V := V) (j := 2) (b := 1) (by omega) h1
     have hmb := msmTo_bd [x, y] [co1 2 1, co2 2 1] 2
     have hEb := mid_bd (x := x) (y := y) (V := V) HV.out 2 1
     have HK := Lib.hid (And.intro hskip (And.intro hC (And.intro hless hmore)))
     clear hskip hC hless hmore
     by_cases hneg : V 3 < 0
     ·have hnegI : decide (V 3 < 0) = true := by simpa using hneg
      have HS3 := Lib.hid (HS2.out.skip (HK.out.1 hneg))
      clear hneg hmb hEb
      go_wp2
      go_roundw
      case rel => exact ⟨2, by omega, by go_num, HW2.out, HS3.out⟩
      case measure => simp [intOf]
     ·have hnegI : decide (V 3 < 0) = false := by simpa using hneg
      have hC := HK.out.2.1 hneg
      have Hless := Lib.hid (HK.out.2.2.1 _ hC)
      have Hmore := Lib.hid (HK.out.2.2.2 _ hC)
      have caq := HW2.out.a.cell (i := 7) (u := .int .i64 (q 3)) rfl
      generalize q 3 = qn at *
      clear HK hC
      change Hid (∀ W, Calls Tryz.prog 141 #[.string s, .int .i64 (k : Int), .string (outS 2 1)] W fun e w' => e = .returned (.int .i64 (msmTo [x, y] [co1 2 1, co2 2 1] 2)) ∧ ∃ m, w' = W.drewN m) at HMc
      change Hid (0 ≤ msmTo [x, y] [co1 2 1, co2 2 1] 2 + V 3 → midC x y V 2 1 < 0 ∨ msmTo [x, y] [co1 2 1, co2 2 1] 2 + V 3 < midC x y V 2 1 → midC x y V 2 2 = msmTo [x, y] [co1 2 1, co2 2 1] 2 + V 3) at Hless
      change Hid (0 ≤ msmTo [x, y] [co1 2 1, co2 2 1] 2 + V 3 → ¬ (midC x y V 2 1 < 0) → ¬ msmTo [x, y] [co1 2 1, co2 2 1] 2 + V 3 < midC x y V 2 1 → midC x y V 2 2 = midC x y V 2 1) at Hmore
      generalize msmTo [x, y] [co1 2 1, co2 2 1] 2 = M at *
      generalize hvn : V 3 = vn at *
      have h0 : 0 ≤ M + vn := by omega
      go_upto_region 11 with fail
      go_quiet (first | (go_at_call 141; refine Calls.quiet_of (HMc.out _)))
      have hd : Below w2.heap.size w2 (w2.drewN nq) := below_drewN (Below.refl _ _) nq
      have HW3 := Lib.hid (HW2.out.kept hd)
      have HS3 := Lib.hid (HS2.out.kept hd)
      clear ca caq hd HW2 HS2 HMc
      generalize w2.drewN nq = wd at *
      obtain ⟨e1, q1, hb1, he1, hm1⟩ := HS3.out
      have c0 := hb1.cell (i := 4) (u := .int .i64 (e1 2)) rfl
      have c1 := hb1.cell (i := 5) (u := .int .i64 (q1 2)) rfl
      have f0 := hb1.frozen 4
      have f1 := hb1.frozen 5
      have ca := HW3.out.a.cell (i := 6) (u := .int .i64 (V 3)) rfl
      have caq := HW3.out.a.cell (i := 7) (u := .int .i64 (q 3)) rfl
      rw [hm1] at c0
      clear hb1 he1 hm1
      rw [hvn] at ca
      generalize q 3 = qn2 at *
      have HL := Lib.hid (fun (h : midC x y V 2 1 < 0 ∨ M + vn < midC x y V 2 1) => HS3.out.less (by omega) (M + vn) qn2 (Hless.out h0 (by omega)))
      have HQ := Lib.hid (fun (h1 : ¬ midC x y V 2 1 < 0) (h2 : ¬ M + vn < midC x y V 2 1) => HS3.out.equal (by omega) 2 (Hmore.out h0 (by omega) (by omega)))
      have HR := Lib.hid (fun (h1 : ¬ midC x y V 2 1 < 0) (h2 : ¬ M + vn < midC x y V 2 1) => HS3.out.skip (Hmore.out h0 (by omega) (by omega)))
      clear Hless Hmore HS3
      generalize midC x y V 2 1 = E at *
      rcases (by omega : E < 0 ∨ (0 ≤ E ∧ M + vn < E) ∨ (0 ≤ E ∧ M + vn = E) ∨ (0 ≤ E ∧ E < M + vn)) with hE | ⟨hE, hE2⟩ | ⟨hE, hE2⟩ | ⟨hE, hE2⟩
      ·have d1 : decide (E < 0) = true := by simpa using hE
       have HX := Lib.hid (HL.out (.inl hE))
       have HWx := Lib.hid ((HW3.out.set Hne.out.1 Hne.out.2 (k := 4) (.int .i64 (M + vn))).set Hne.out.1 Hne.out.2 (k := 5) (.int .i64 qn2))
       clear HL HQ HR hE
       go_wp2
       go_roundw
       case rel => exact ⟨2, by omega, by go_num, HWx.out, HX.out⟩
       case measure => simp [intOf]
      ·have d1 : decide (E < 0) = false := by simpa using hE
       have d2 : decide (M + vn < E) = true := by simpa using hE2
       have HX := Lib.hid (HL.out (.inr hE2))
       have HWx := Lib.hid ((HW3.out.set Hne.out.1 Hne.out.2 (k := 4) (.int .i64 (M + vn))).set Hne.out.1 Hne.out.2 (k := 5) (.int .i64 qn2))
       clear HL HQ HR hE hE2
       go_wp2
       go_roundw
       case rel => exact ⟨2, by omega, by go_num, HWx.out, HX.out⟩
       case measure => simp [intOf]
      ·have d1 : decide (E < 0) = false := by simpa using hE
       have d2 : decide (M + vn < E) = false := by simp; omega
       have d3 : (M + vn == E) = true := by simpa using hE2
       have HX := Lib.hid (HQ.out (by omega) (by omega))
       have HWx := Lib.hid (HW3.out.set Hne.out.1 Hne.out.2 (k := 5) (.int .i64 2))
       clear HL HQ HR hE hE2
       go_wp2
       go_roundw
       case rel => exact ⟨2, by omega, by go_num, HWx.out, HX.out⟩
       case measure => simp [intOf]
      ·have d1 : decide (E < 0) = false := by simpa using hE
       have d2 : decide (M + vn < E) = false := by simp; omega
       have d3 : (M + vn == E) = false := by simp; omega
       have HX := Lib.hid (HR.out (by omega) (by omega))
       clear HL HQ HR hE hE2
       go_wp2
       go_roundw
       case rel => exact ⟨2, by omega, by go_num, HW3.out, HX.out⟩
       case measure => simp [intOf]
    ·rw [show ((2 : Nat) : Int) = 2 from rfl]
     go_wp2
     go_roundw
     case rel => exact ⟨3, by omega, by go_num, HW.out, HS.out.done⟩
     case measure => simp [intOf]
  ·rw [show ((3 : Nat) : Int) = 3 from rfl]
   obtain ⟨e0, q0, hb0, he0⟩ := HS.out
   have c0 := hb0.cell (i := 6) (u := .int .i64 (e0 3)) rfl
   have c1 := hb0.cell (i := 7) (u := .int .i64 (q0 3)) rfl
   have f0 := hb0.frozen 6
   have f1 := hb0.frozen 7
   have HB0 : Hid (StpB ((wo.setCell ⟨w1.heap.size + 1, 6, none⟩ (.int .i64 (-1))).setCell ⟨w1.heap.size + 1, 7, none⟩ (.int .i64 0)) (w1.heap.size + 1) 3 0 x y V) := Lib.hid (HS.out.begin (j := 3) (by omega) 0)
   have HW0 := Lib.hid ((HW.out.set Hne.out.1 Hne.out.2 (k := 6) (.int .i64 (-1))).set Hne.out.1 Hne.out.2 (k := 7) (.int .i64 0))
   clear hb0 he0 HW HS
   go_wp2
   clear c0 c1 f0 f1
   go_loopw [9] (fun v wx => ∃ c : Nat, c ≤ 2 ∧ v = .int .i64 (c : Int) ∧ BefW w wx w1.heap.size V q ∧ StpB wx (w1.heap.size + 1) 3 c x y V) (fun v _ => 2 - (intOf v).toNat)
   case atStart => exact ⟨0, by omega, rfl, HW0.out, HB0.out⟩
   case round =>
    obtain ⟨c, hc, rfl, hW, hS⟩ := hrel
    clear HW0 HB0
    have HW := Lib.hid hW
    have HS := Lib.hid hS
    clear hW hS
    rcases (by omega : c = 0 ∨ c = 1 ∨ c = 2) with rfl | rfl | rfl
    ·rw [show ((0 : Nat) : Int) = 0 from rfl]
     have HNc : Hid (∀ W, Calls Tryz.prog 140 #[.int .i64 3, .int .i64 0] W fun e w' => e = .returned (.tuple #[.int .i64 1, .string (outS 3 0)]) ∧ Below W.heap.size W w') := Lib.hid (fun W => HN.out W 3 0 (by omega) (by omega))
     have HMc := Lib.hid (fun W => HM.out W 3 0)
     go_wp2_with fail
     refine (HNc.out _).mono ?_
     rintro e w2 ⟨rfl, hb2⟩
     have HW2 := Lib.hid (HW.out.kept hb2)
     have HS2 := Lib.hid (HS.out.kept hb2)
     clear hb2 HW HS HNc
     have hv := HV.out 1
     have ca := HW2.out.a.cell (i := 2) (u := .int .i64 (V 1)) rfl
     have hskip := fun h : V 1 < 0 => mid_skip (x := x) (y := y) (V := V) (fun i => (HV.out i).1) (j := 3) (b := 0) (by omega) h
     have hC := fun h : ¬ V 1 < 0 => brc_pos (x := x) (y := y) (V := V) (j := 3) (b := 0) h
     have hless := fun C (h1 : brc x y V 3 0 = C) => mid_less (x := x) (y := y) (V := V) (j := 3) (b := 0) (by omega) h1
     have hmore := fun C (h1 : brc x y V 3 0 = C) => mid_more (x := x) (y := y) (V := V) (j := 3) (b := 0) (by omega) h1
     have hmb := msmTo_bd [x, y] [co1 3 0, co2 3 0] 2
     have hEb := mid_bd (x := x) (y := y) (V := V) HV.out 3 0
     have HK := Lib.hid (And.intro hskip (And.intro hC (And.intro hless hmore)))
     clear hskip hC hless hmore
     by_cases hneg : V 1 < 0
     ·have hnegI : decide (V 1 < 0) = true := by simpa using hneg
      have HS3 := Lib.hid (HS2.out.skip (HK.out.1 hneg))
      clear hneg hmb hEb
      go_wp2
      go_roundw
      case rel => exact ⟨1, by omega, by go_num, HW2.out, HS3.out⟩
      case measure => simp [intOf]
     ·have hnegI : decide (V 1 < 0) = false := by simpa using hneg
      have hC := HK.out.2.1 hneg
      have Hless := Lib.hid (HK.out.2.2.1 _ hC)
      have Hmore := Lib.hid (HK.out.2.2.2 _ hC)
      have caq := HW2.out.a.cell (i := 3) (u := .int .i64 (q 1)) rfl
      generalize q 1 = qn at *
      clear HK hC
      change Hid (∀ W, Calls Tryz.prog 141 #[.string s, .int .i64 (k : Int), .string (outS 3 0)] W fun e w' => e = .returned (.int .i64 (msmTo [x, y] [co1 3 0, co2 3 0] 2)) ∧ ∃ m, w' = W.drewN m) at HMc
      change Hid (0 ≤ msmTo [x, y] [co1 3 0, co2 3 0] 2 + V 1 → midC x y V 3 0 < 0 ∨ msmTo [x, y] [co1 3 0, co2 3 0] 2 + V 1 < midC x y V 3 0 → midC x y V 3 1 = msmTo [x, y] [co1 3 0, co2 3 0] 2 + V 1) at Hless
      change Hid (0 ≤ msmTo [x, y] [co1 3 0, co2 3 0] 2 + V 1 → ¬ (midC x y V 3 0 < 0) → ¬ msmTo [x, y] [co1 3 0, co2 3 0] 2 + V 1 < midC x y V 3 0 → midC x y V 3 1 = midC x y V 3 0) at Hmore
      generalize msmTo [x, y] [co1 3 0, co2 3 0] 2 = M at *
      generalize hvn : V 1 = vn at *
      have h0 : 0 ≤ M + vn := by omega
      go_upto_region 11 with fail
      go_quiet (first | (go_at_call 141; refine Calls.quiet_of (HMc.out _)))
      have hd : Below w2.heap.size w2 (w2.drewN nq) := below_drewN (Below.refl _ _) nq
      have HW3 := Lib.hid (HW2.out.kept hd)
      have HS3 := Lib.hid (HS2.out.kept hd)
      clear ca caq hd HW2 HS2 HMc
      generalize w2.drewN nq = wd at *
      obtain ⟨e1, q1, hb1, he1, hm1⟩ := HS3.out
      have c0 := hb1.cell (i := 6) (u := .int .i64 (e1 3)) rfl
      have c1 := hb1.cell (i := 7) (u := .int .i64 (q1 3)) rfl
      have f0 := hb1.frozen 6
      have f1 := hb1.frozen 7
      have ca := HW3.out.a.cell (i := 2) (u := .int .i64 (V 1)) rfl
      have caq := HW3.out.a.cell (i := 3) (u := .int .i64 (q 1)) rfl
      rw [hm1] at c0
      clear hb1 he1 hm1
      rw [hvn] at ca
      generalize q 1 = qn2 at *
      have HL := Lib.hid (fun (h : midC x y V 3 0 < 0 ∨ M + vn < midC x y V 3 0) => HS3.out.less (by omega) (M + vn) qn2 (Hless.out h0 (by omega)))
      have HQ := Lib.hid (fun (h1 : ¬ midC x y V 3 0 < 0) (h2 : ¬ M + vn < midC x y V 3 0) => HS3.out.equal (by omega) 2 (Hmore.out h0 (by omega) (by omega)))
      have HR := Lib.hid (fun (h1 : ¬ midC x y V 3 0 < 0) (h2 : ¬ M + vn < midC x y V 3 0) => HS3.out.skip (Hmore.out h0 (by omega) (by omega)))
      clear Hless Hmore HS3
      generalize midC x y V 3 0 = E at *
      rcases (by omega : E < 0 ∨ (0 ≤ E ∧ M + vn < E) ∨ (0 ≤ E ∧ M + vn = E) ∨ (0 ≤ E ∧ E < M + vn)) with hE | ⟨hE, hE2⟩ | ⟨hE, hE2⟩ | ⟨hE, hE2⟩
      ·have d1 : decide (E < 0) = true := by simpa using hE
       have HX := Lib.hid (HL.out (.inl hE))
       have HWx := Lib.hid ((HW3.out.set Hne.out.1 Hne.out.2 (k := 6) (.int .i64 (M + vn))).set Hne.out.1 Hne.out.2 (k := 7) (.int .i64 qn2))
       clear HL HQ HR hE
       go_wp2
       go_roundw
       case rel => exact ⟨1, by omega, by go_num, HWx.out, HX.out⟩
       case measure => simp [intOf]
      ·have d1 : decide (E < 0) = false := by simpa using hE
       have d2 : decide (M + vn < E) = true := by simpa using hE2
       have HX := Lib.hid (HL.out (.inr hE2))
       have HWx := Lib.hid ((HW3.out.set Hne.out.1 Hne.out.2 (k := 6) (.int .i64 (M + vn))).set Hne.out.1 Hne.out.2 (k := 7) (.int .i64 qn2))
       clear HL HQ HR hE hE2
       go_wp2
       go_roundw
       case rel => exact ⟨1, by omega, by go_num, HWx.out, HX.out⟩
       case measure => simp [intOf]
      ·have d1 : decide (E < 0) = false := by simpa using hE
       have d2 : decide (M + vn < E) = false := by simp; omega
       have d3 : (M + vn == E) = true := by simpa using hE2
       have HX := Lib.hid (HQ.out (by omega) (by omega))
       have HWx := Lib.hid (HW3.out.set Hne.out.1 Hne.out.2 (k := 7) (.int .i64 2))
       clear HL HQ HR hE hE2
       go_wp2
       go_roundw
       case rel => exact ⟨1, by omega, by go_num, HWx.out, HX.out⟩
       case measure => simp [intOf]
      ·have d1 : decide (E < 0) = false := by simpa using hE
       have d2 : decide (M + vn < E) = false := by simp; omega
       have d3 : (M + vn == E) = false := by simp; omega
       have HX := Lib.hid (HR.out (by omega) (by omega))
       clear HL HQ HR hE hE2
       go_wp2
       go_roundw
       case rel => exact ⟨1, by omega, by go_num, HW3.out, HX.out⟩
       case measure => simp [intOf]
    ·rw [show ((1 : Nat) : Int) = 1 from rfl]
     have HNc : Hid (∀ W, Calls Tryz.prog 140 #[.int .i64 3, .int .i64 1] W fun e w' => e = .returned (.tuple #[.int .i64 3, .string (outS 3 1)]) ∧ Below W.heap.size W w') := Lib.hid (fun W => HN.out W 3 1 (by omega) (by omega))
     have HMc := Lib.hid (fun W => HM.out W 3 1)
     go_wp2_with fail
     refine (HNc.out _).mono ?_
     rintro e w2 ⟨rfl, hb2⟩
     have HW2 := Lib.hid (HW.out.kept hb2)
     have HS2 := Lib.hid (HS.out.kept hb2)
     clear hb2 HW HS HNc
     have hv := HV.out 3
     have ca := HW2.out.a.cell (i := 6) (u := .int .i64 (V 3)) rfl
     have hskip := fun h : V 3 < 0 => mid_skip (x := x) (y := y) (V := V) (fun i => (HV.out i).1) (j := 3) (b := 1) (by omega) h
     have hC := fun h : ¬ V 3 < 0 => brc_pos (x := x) (y := y) (V := V) (j := 3) (b := 1) h
     have hless := fun C (h1 : brc x y V 3 1 = C) => mid_less (x := x) (y := y) (V := V) (j := 3) (b := 1) (by omega) h1
     have hmore := fun C (h1 : brc x y V 3 1 = C) => mid_more (x := x) (y := y) (V := V) (j := 3) (b := 1) (by omega) h1
     have hmb := msmTo_bd [x, y] [co1 3 1, co2 3 1] 2
     have hEb := mid_bd (x := x) (y := y) (V := V) HV.out 3 1
     have HK := Lib.hid (And.intro hskip (And.intro hC (And.intro hless hmore)))
     clear hskip hC hless hmore
     by_cases hneg : V 3 < 0
     ·have hnegI : decide (V 3 < 0) = true := by simpa using hneg
      have HS3 := Lib.hid (HS2.out.skip (HK.out.1 hneg))
      clear hneg hmb hEb
      go_wp2
      go_roundw
      case rel => exact ⟨2, by omega, by go_num, HW2.out, HS3.out⟩
      case measure => simp [intOf]
     ·have hnegI : decide (V 3 < 0) = false := by simpa using hneg
      have hC := HK.out.2.1 hneg
      have Hless := Lib.hid (HK.out.2.2.1 _ hC)
      have Hmore := Lib.hid (HK.out.2.2.2 _ hC)
      have caq := HW2.out.a.cell (i := 7) (u := .int .i64 (q 3)) rfl
      generalize q 3 = qn at *
      clear HK hC
      change Hid (∀ W, Calls Tryz.prog 141 #[.string s, .int .i64 (k : Int), .string (outS 3 1)] W fun e w' => e = .returned (.int .i64 (msmTo [x, y] [co1 3 1, co2 3 1] 2)) ∧ ∃ m, w' = W.drewN m) at HMc
      change Hid (0 ≤ msmTo [x, y] [co1 3 1, co2 3 1] 2 + V 3 → midC x y V 3 1 < 0 ∨ msmTo [x, y] [co1 3 1, co2 3 1] 2 + V 3 < midC x y V 3 1 → midC x y V 3 2 = msmTo [x, y] [co1 3 1, co2 3 1] 2 + V 3) at Hless
      change Hid (0 ≤ msmTo [x, y] [co1 3 1, co2 3 1] 2 + V 3 → ¬ (midC x y V 3 1 < 0) → ¬ msmTo [x, y] [co1 3 1, co2 3 1] 2 + V 3 < midC x y V 3 1 → midC x y V 3 2 = midC x y V 3 1) at Hmore
      generalize msmTo [x, y] [co1 3 1, co2 3 1] 2 = M at *
      generalize hvn : V 3 = vn at *
      have h0 : 0 ≤ M + vn := by omega
      go_upto_region 11 with fail
      go_quiet (first | (go_at_call 141; refine Calls.quiet_of (HMc.out _)))
      have hd : Below w2.heap.size w2 (w2.drewN nq) := below_drewN (Below.refl _ _) nq
      have HW3 := Lib.hid (HW2.out.kept hd)
      have HS3 := Lib.hid (HS2.out.kept hd)
      clear ca caq hd HW2 HS2 HMc
      generalize w2.drewN nq = wd at *
      obtain ⟨e1, q1, hb1, he1, hm1⟩ := HS3.out
      have c0 := hb1.cell (i := 6) (u := .int .i64 (e1 3)) rfl
      have c1 := hb1.cell (i := 7) (u := .int .i64 (q1 3)) rfl
      have f0 := hb1.frozen 6
      have f1 := hb1.frozen 7
      have ca := HW3.out.a.cell (i := 6) (u := .int .i64 (V 3)) rfl
      have caq := HW3.out.a.cell (i := 7) (u := .int .i64 (q 3)) rfl
      rw [hm1] at c0
      clear hb1 he1 hm1
      rw [hvn] at ca
      generalize q 3 = qn2 at *
      have HL := Lib.hid (fun (h : midC x y V 3 1 < 0 ∨ M + vn < midC x y V 3 1) => HS3.out.less (by omega) (M + vn) qn2 (Hless.out h0 (by omega)))
      have HQ := Lib.hid (fun (h1 : ¬ midC x y V 3 1 < 0) (h2 : ¬ M + vn < midC x y V 3 1) => HS3.out.equal (by omega) 2 (Hmore.out h0 (by omega) (by omega)))
      have HR := Lib.hid (fun (h1 : ¬ midC x y V 3 1 < 0) (h2 : ¬ M + vn < midC x y V 3 1) => HS3.out.skip (Hmore.out h0 (by omega) (by omega)))
      clear Hless Hmore HS3
      generalize midC x y V 3 1 = E at *
      rcases (by omega : E < 0 ∨ (0 ≤ E ∧ M + vn < E) ∨ (0 ≤ E ∧ M + vn = E) ∨ (0 ≤ E ∧ E < M + vn)) with hE | ⟨hE, hE2⟩ | ⟨hE, hE2⟩ | ⟨hE, hE2⟩
      ·have d1 : decide (E < 0) = true := by simpa using hE
       have HX := Lib.hid (HL.out (.inl hE))
       have HWx := Lib.hid ((HW3.out.set Hne.out.1 Hne.out.2 (k := 6) (.int .i64 (M + vn))).set Hne.out.1 Hne.out.2 (k := 7) (.int .i64 qn2))
       clear HL HQ HR hE
       go_wp2
       go_roundw
       case rel => exact ⟨2, by omega, by go_num, HWx.out, HX.out⟩
       case measure => simp [intOf]
      ·have d1 : decide (E < 0) = false := by simpa using hE
       have d2 : decide (M + vn < E) = true := by simpa using hE2
       have HX := Lib.hid (HL.out (.inr hE2))
       have HWx := Lib.hid ((HW3.out.set Hne.out.1 Hne.out.2 (k := 6) (.int .i64 (M + vn))).set Hne.out.1 Hne.out.2 (k := 7) (.int .i64 qn2))
       clear HL HQ HR hE hE2
       go_wp2
       go_roundw
       case rel => exact ⟨2, by omega, by go_num, HWx.out, HX.out⟩
       case measure => simp [intOf]
      ·have d1 : decide (E < 0) = false := by simpa using hE
       have d2 : decide (M + vn < E) = false := by simp; omega
       have d3 : (M + vn == E) = true := by simpa using hE2
       have HX := Lib.hid (HQ.out (by omega) (by omega))
       have HWx := Lib.hid (HW3.out.set Hne.out.1 Hne.out.2 (k := 7) (.int .i64 2))
       clear HL HQ HR hE hE2
       go_wp2
       go_roundw
       case rel => exact ⟨2, by omega, by go_num, HWx.out, HX.out⟩
       case measure => simp [intOf]
      ·have d1 : decide (E < 0) = false := by simpa using hE
       have d2 : decide (M + vn < E) = false := by simp; omega
       have d3 : (M + vn == E) = false := by simp; omega
       have HX := Lib.hid (HR.out (by omega) (by omega))
       clear HL HQ HR hE hE2
       go_wp2
       go_roundw
       case rel => exact ⟨2, by omega, by go_num, HW3.out, HX.out⟩
       case measure => simp [intOf]
    ·rw [show ((2 : Nat) : Int) = 2 from rfl]
     go_wp2
     go_roundw
     case rel => exact ⟨4, by omega, by go_num, HW.out, HS.out.done⟩
     case measure => simp [intOf]
  ·rw [show ((4 : Nat) : Int) = 4 from rfl]
   obtain ⟨e0, q0, hb0, he0⟩ := HS.out
   have hz := HW.out.z
   have c0 := hb0.cell (i := 0) (u := .int .i64 (e0 0)) rfl
   have z0 := hz.cell (i := 0) (u := .int .i64 0) rfl
   have g0 := hz.frozen 0
   have c1 := hb0.cell (i := 1) (u := .int .i64 (q0 0)) rfl
   have z1 := hz.cell (i := 1) (u := .int .i64 0) rfl
   have g1 := hz.frozen 1
   have c2 := hb0.cell (i := 2) (u := .int .i64 (e0 1)) rfl
   have z2 := hz.cell (i := 2) (u := .int .i64 0) rfl
   have g2 := hz.frozen 2
   have c3 := hb0.cell (i := 3) (u := .int .i64 (q0 1)) rfl
   have z3 := hz.cell (i := 3) (u := .int .i64 0) rfl
   have g3 := hz.frozen 3
   have c4 := hb0.cell (i := 4) (u := .int .i64 (e0 2)) rfl
   have z4 := hz.cell (i := 4) (u := .int .i64 0) rfl
   have g4 := hz.frozen 4
   have c5 := hb0.cell (i := 5) (u := .int .i64 (q0 2)) rfl
   have z5 := hz.cell (i := 5) (u := .int .i64 0) rfl
   have g5 := hz.frozen 5
   have c6 := hb0.cell (i := 6) (u := .int .i64 (e0 3)) rfl
   have z6 := hz.cell (i := 6) (u := .int .i64 0) rfl
   have g6 := hz.frozen 6
   have c7 := hb0.cell (i := 7) (u := .int .i64 (q0 3)) rfl
   have z7 := hz.cell (i := 7) (u := .int .i64 0) rfl
   have g7 := hz.frozen 7
   have hrow : row8 e0 q0 = row8 (fun t => brc x y V t (vbit x y V t)) q0 := by
    unfold row8
    rw [he0 0 (by omega), he0 1 (by omega), he0 2 (by omega), he0 3 (by omega)]
   have HE := Lib.hid hrow
   have HRf : Hid (Blk (set8 wo w1.heap.size e0 q0) w1.heap.size 178 (row8 e0 q0)) := Lib.hid (((((((((hz.set 0 (.int .i64 (e0 0))).set 1 (.int .i64 (q0 0))).set 2 (.int .i64 (e0 1))).set 3 (.int .i64 (q0 1))).set 4 (.int .i64 (e0 2))).set 5 (.int .i64 (q0 2))).set 6 (.int .i64 (e0 3))).set 7 (.int .i64 (q0 3))))
   have HBf : Hid (Below w.heap.size w (set8 wo w1.heap.size e0 q0)) := Lib.hid (set8_below e0 q0 HW.out.b (by rw [HZ1.out]; omega))
   clear hb0 hz he0 hrow
   go_wp2
   change bodyPost _ _ _ _ _ (set8 wo w1.heap.size e0 q0)
   clear c0 c1 c2 c3 c4 c5 c6 c7 z0 z1 z2 z3 z4 z5 z6 z7 g0 g1 g2 g3 g4 g5 g6 g7
   generalize set8 wo w1.heap.size e0 q0 = wf at *
   have r0 := HRf.out.cell (i := 0) (u := .int .i64 (e0 0)) rfl
   have r1 := HRf.out.cell (i := 1) (u := .int .i64 (q0 0)) rfl
   have r2 := HRf.out.cell (i := 2) (u := .int .i64 (e0 1)) rfl
   have r3 := HRf.out.cell (i := 3) (u := .int .i64 (q0 1)) rfl
   have r4 := HRf.out.cell (i := 4) (u := .int .i64 (e0 2)) rfl
   have r5 := HRf.out.cell (i := 5) (u := .int .i64 (q0 2)) rfl
   have r6 := HRf.out.cell (i := 6) (u := .int .i64 (e0 3)) rfl
   have r7 := HRf.out.cell (i := 7) (u := .int .i64 (q0 3)) rfl
   exact bodyPost_ret (v := .agg (row8 e0 q0).toArray) (by simp [results, Tryz.results202, go_sem, row8, r0, r1, r2, r3, r4, r5, r6, r7]) rfl ⟨q0, by rw [HE.out], HBf.out⟩
end Go.Proofs.YtnlnmfkmbpihhaaGreatDoor

namespace Go.Proofs.YtnlnmfkmbpihhaaGreatDoor
open Go.RowKit

theorem Tryz.infoSt4 : (Tryz.prog.info? 178).map (fun i => (i.zero, i.size, i.bytes)) = some (some (stgV (fun _ => 0) (fun _ => 0)), 8, 64) := by kernel_rfl
theorem Tryz.sizeSt4 : (Tryz.prog.info? 178).map (·.size) = some 8 := by kernel_rfl
theorem make_st4 (m : Nat) (hm : m ≤ 1000000) (w : World) : (Instr.makeSlice 174 (.int .i64 (m : Int)) (.int .i64 (m : Int))).run Tryz.prog w = .ok (.slice (some ⟨w.heap.size, 0, none⟩) m m) (w.alloc (.cells (zeroStg m) 178)) := by
 obtain ⟨i0, hi, hz0, hz1, hz2⟩ := info_parts Tryz.infoSt4
 have hr := run_make (P := Tryz.prog) w 174 178 i0 (stgV (fun _ => 0) (fun _ => 0)) Tryz.underlying174 hi hz0 .i64 .i64 m m (by omega) (by omega) (by rw [hz2]; omega) (by omega)
 rw [hr, hz1, Int.toNat_natCast]
 rfl
theorem zeroSt4_stg (W : World) (m : Nat) (V : Nat → Nat → Int) : StgM (W.alloc (.cells (zeroStg m) 178)) W.heap.size m m V := by
 have hb : (W.alloc (.cells (zeroStg m) 178)).heap[W.heap.size]? = some (.cells (zeroStg m) 178 (0, 0)) := by
  show (W.heap.push _)[W.heap.size]? = _
  simp
 have hs : (zeroStg m).size = m * 8 := size_madeCells _ _
 refine ⟨fun j hj i hi => ⟨?_, ?_⟩, fun j hj hm => absurd hj (by omega)⟩
 ·rw [cell_of_row _ _ _ _ _ _ hb, Array.getElem?_eq_getElem (by rw [hs]; omega)]
  rfl
 ·simp only [World.frozen?, hb]
  simp
theorem st4_store {ops : Array Oper} {rest : List Oper} {op : Oper} {a : Act} {W : World} {Q : Exit → Act → World → Prop} (hgd : op.guard = none) (x y : Operand) (ho : op.op = .store 178 x y)
  (b o : Nat) (cells : Array Value) (hx : a.eval x = .pointer (some ⟨b, o, none⟩)) (hy : a.eval y = .agg cells)
  (ht : W.there b o cells.size) (h8 : cells.size = 8) (h1 : cells.all (·.oneCell') = true) (W1 : World) (hE : W.setCells b o cells.toList = W1)
  (h : wpList Tryz.prog ops Q rest (a.put op.dst undef) W1) : wpList Tryz.prog ops Q (op :: rest) a W :=
 wpList_store_mid hgd 178 x y ho b o cells hx hy ht (by rw [h8]; exact Tryz.sizeSt4) h1 (by rw [hE]; exact h)
theorem row8_one (e q : Nat → Int) : (row8 e q).toArray.all (·.oneCell') = true := all_oneCell_toArray fun v hv => by
 unfold row8 at hv
 simp only [List.mem_cons, List.not_mem_nil, or_false] at hv
 rcases hv with rfl | rfl | rfl | rfl | rfl | rfl | rfl | rfl <;> rfl
theorem stm_store {ops : Array Oper} {rest : List Oper} {op : Oper} {a : Act} {W : World} {Q : Exit → Act → World → Prop} {g m k : Nat} {V : Nat → Nat → Int} {q : Nat → Int} (hgd : op.guard = none) (x y : Operand) (ho : op.op = .store 178 x y)
  (hx : a.eval x = .pointer (some ⟨g, k * 8, none⟩)) (hy : a.eval y = .agg (row8 (V k) q).toArray) (hS : StgM W g m (k + 1) V) (hk : k < m)
  (h : ∀ W', StgM W' g m k V → (∀ H w, Below H w W → H ≤ g → Below H w W') → wpList Tryz.prog ops Q rest (a.put op.dst undef) W') : wpList Tryz.prog ops Q (op :: rest) a W :=
 wpList_store_mid hgd 178 x y ho g (k * 8) _ hx hy (hS.th k hk) Tryz.sizeSt4 (row8_one _ _) (h _ (hS.set hk q) (fun _ _ hb hg => setCells_below hb hg _ _))

set_option maxRecDepth 100000 in
set_option maxHeartbeats 8000000 in
theorem rtable_any (w : World) (s : ByteArray) (n : Nat) (hn : s.size = 2 * n) (hn1 : n ≤ 1000) :
  Calls Tryz.prog 139 #[.string s] w fun e w' => ∃ g, e = .returned (.slice (some ⟨g, 0, none⟩) (n + 1) (n + 1)) ∧ w.heap.size ≤ g ∧ StgM w' g (n + 1) 0 (stgOf s) ∧ Below w.heap.size w w' := by
 have hmk : ∀ W : World, (Instr.makeSlice 174 (.int .i64 ((n : Int) + 1)) (.int .i64 ((n : Int) + 1))).run Tryz.prog W = .ok (.slice (some ⟨W.heap.size, 0, none⟩) (n + 1) (n + 1)) (W.alloc (.cells (zeroStg (n + 1)) 178)) := make_st4 (n + 1) (by omega)
 have hdiv : Int.tdiv (s.size : Int) 2 = (n : Int) := by rw [hn, Int.tdiv_eq_ediv_of_nonneg (by omega)]; omega
 obtain ⟨V, hV⟩ : ∃ V, stgOf s = V := ⟨_, rfl⟩
 rw [hV]
 have hnJ : (n : Int) ≤ 1000 := by omega
 have hZ := zeroSt4_stg w (n + 1) V
 have hVn : ∀ t, V n t = if t = 0 then 0 else -1 := fun t => by
  rw [← hV]
  unfold stgOf
  rw [List.drop_eq_nil_of_le (by rw [bs_len]; omega)]
  rfl
 have hrow : row8 (V n) (fun t => if t = 0 then 1 else 0) = [.int .i64 0, .int .i64 1, .int .i64 (-1), .int .i64 0, .int .i64 (-1), .int .i64 0, .int .i64 (-1), .int .i64 0] := by
  unfold row8
  simp only [hVn]
  rfl
 have hZ1 := hZ.set (k := n) (by omega) (fun t => if t = 0 then 1 else 0)
 have hB1 : Below w.heap.size w ((w.alloc (.cells (zeroStg (n + 1)) 178)).setCells w.heap.size (n * 8) (row8 (V n) (fun t => if t = 0 then 1 else 0))) := setCells_below ((Below.refl _ _).alloc (Nat.le_refl _) _) (Nat.le_refl _) _ _
 have hth := hZ.th n (by omega)
 have hE : (w.alloc (.cells (zeroStg (n + 1)) 178)).setCells w.heap.size (n * 8) [.int .i64 0, .int .i64 1, .int .i64 (-1), .int .i64 0, .int .i64 (-1), .int .i64 0, .int .i64 (-1), .int .i64 0] = (w.alloc (.cells (zeroStg (n + 1)) 178)).setCells w.heap.size (n * 8) (row8 (V n) (fun t => if t = 0 then 1 else 0)) := by rw [hrow]
 generalize (w.alloc (.cells (zeroStg (n + 1)) 178)).setCells w.heap.size (n * 8) (row8 (V n) (fun t => if t = 0 then 1 else 0)) = W1 at hZ1 hB1 hE
 have HZ1 := Lib.hid hZ1
 have HB1 := Lib.hid hB1
 have HV := Lib.hid hV
 have HE := Lib.hid hE
 have HT := Lib.hid hth
 have hone : ((#[Value.int .i64 0, .int .i64 1, .int .i64 (-1), .int .i64 0, .int .i64 (-1), .int .i64 0, .int .i64 (-1), .int .i64 0] : Array Value).all (·.oneCell') = true) := by simp [Value.oneCell']
 have HO := Lib.hid hone
 clear hZ hZ1 hB1 hV hVn hrow hE hth hone
 go_enter Tryz.func139, Tryz.ntmps139
 go_wp2_with (refine st4_store rfl (.tmp 19) (.tmp 18) rfl _ _ _ rfl rfl HT.out rfl HO.out W1 HE.out ?_)
 go_loopw [5] (fun v wr => ∃ j : Nat, j ≤ n ∧ v = .int .i64 ((j : Int) - 1) ∧ StgM wr w.heap.size (n + 1) j V ∧ Below w.heap.size w wr) (fun v _ => (intOf v + 1).toNat)
 case atStart => exact ⟨n, Nat.le_refl _, rfl, HZ1.out, HB1.out⟩
 case round =>
  obtain ⟨j, hj, rfl, hS, hB⟩ := hrel
  match j, hj, hS with
  | 0, hj, hS =>
   go_wp2_with fail
   go_ret
   exact ⟨_, rfl, Nat.le_refl _, hS, hB⟩
  | k + 1, hj, hS =>
   obtain ⟨x, y, hxy, hdr⟩ := drop_pair (s := s) (k := k) (by omega)
   obtain ⟨q, hq⟩ := hS.at' (k + 1) (Nat.le_refl _) (by omega)
   have hVk : (fun t => brc x y (V (k + 1)) t (vbit x y (V (k + 1)) t)) = V k := by
    rw [← HV.out]
    funext t
    unfold stgOf
    rw [hdr, vst]
   have H0 : Hid (∀ W, Calls Tryz.prog 202 #[.string s, .int .i64 (k : Int), .agg (row8 (V (k + 1)) q).toArray] W fun e w' => ∃ g', e = .returned (.agg (row8 (V k) g').toArray) ∧ Below W.heap.size W w') := Lib.hid (fun W => by
    have h := rbefore_any W s k x y _ (by omega) (by omega) hdr (V (k + 1)) q (fun i => by
     rw [← HV.out]
     unfold stgOf
     have h1 := vst_ge ((bs s).drop (2 * (k + 1))) i
     have h2 := vst_le ((bs s).drop (2 * (k + 1))) i
     have h3 : ((bs s).drop (2 * (k + 1))).length ≤ 2000 := by rw [List.length_drop, bs_len]; omega
     omega)
    rw [hVk] at h
    exact h)
   have HS := Lib.hid hS
   have HBr := Lib.hid hB
   have Hq := Lib.hid hq
   clear hVk hxy hdr hS hB HZ1 HB1 HE HT HO HV hq
   have hkJ : (k : Int) < n := by omega
   have ek : (((k + 1 : Nat) : Int) - 1) = (k : Int) := by omega
   have et : ((k : Int) + 1).toNat = k + 1 := by omega
   have b2 : (k : Int) + 1 < n + 1 := by omega
   have b3 : (0 : Int) ≤ k := by omega
   have ew3 : IntKind.i64.wrap ((k : Int) + 1) = k + 1 := by rw [IntKind.wrap_i64]; omega
   have b8 : (0 : Int) ≤ k + 1 := by omega
   have b9 : (k : Int) < n + 1 := by omega
   rw [ek]
   go_wp2_with (refine wpList_load_mid rfl 178 (.tmp 33) rfl w.heap.size ((k + 1) * 8) rfl (row8 (V (k + 1)) q) _ Hq.out Tryz.underlying178 rfl Tryz.sizeSt4 ?_)
   refine (H0.out _).mono ?_
   rintro e w5 ⟨g5, rfl, hb5⟩
   have s5 := HS.out.kept (by omega) hb5
   have HB5 := Lib.hid (HBr.out.trans (hb5.mono HBr.out.size))
   have S5 := Lib.hid s5
   clear s5 hb5
   go_wp2_with (refine stm_store rfl (.tmp 36) (.tmp 35) rfl rfl rfl S5.out (by omega) ?_; intro w6 hS6 hB6)
   have HB6 := Lib.hid (hB6 _ _ HB5.out (Nat.le_refl _))
   clear hB6 HB5 S5
   go_roundw
   case rel => exact ⟨k, by omega, rfl, hS6, HB6.out⟩
   case measure => simp [intOf]

end Go.Proofs.YtnlnmfkmbpihhaaGreatDoor

namespace Go.Proofs.YtnlnmfkmbpihhaaGreatDoor
open Go.RowKit

theorem rbit_neg {x y : Nat} {V : Nat → Int} {t : Nat} (h : V (cnx t 0) < 0) : vbit x y V t = 1 := by
 have h1 : brc x y V t 0 < 0 := by unfold brc; rw [if_pos h]; exact h
 unfold vbit pick1
 rw [if_pos]
 simp [h1]
theorem rbit_one {x y : Nat} {V : Nat → Int} {t : Nat} (h0 : 0 ≤ V (cnx t 0)) (hne : msmTo [x, y] [co1 t 0, co2 t 0] 2 + V (cnx t 0) ≠ brc x y V t (vbit x y V t)) : vbit x y V t = 1 := by
 have h : ¬ V (cnx t 0) < 0 := by omega
 rw [← brc_pos h] at hne
 rcases (by have := vbit_lt x y V t; omega : vbit x y V t = 0 ∨ vbit x y V t = 1) with e | e
 ·rw [e] at hne
  exact absurd rfl hne
 ·exact e
theorem rbit_zero {x y : Nat} {V : Nat → Int} {t : Nat} (h0 : 0 ≤ V (cnx t 0)) (he : msmTo [x, y] [co1 t 0, co2 t 0] 2 + V (cnx t 0) = brc x y V t (vbit x y V t)) : vbit x y V t = 0 := by
 have h : ¬ V (cnx t 0) < 0 := by omega
 have hb := brc_pos (x := x) (y := y) h
 have hp : 0 ≤ brc x y V t 0 := by
  have := msmTo_bd [x, y] [co1 t 0, co2 t 0] 2
  omega
 rcases (by have := vbit_lt x y V t; omega : vbit x y V t = 0 ∨ vbit x y V t = 1) with e | e
 ·exact e
 ·rw [e, ← hb] at he
  have e2 := e
  unfold vbit at e2
  split at e2
  ·next hp2 =>
   unfold pick1 at hp2
   simp at hp2
   omega
  ·cases e2

set_option maxRecDepth 100000 in
set_option maxHeartbeats 8000000 in
theorem rvit_any (w : World) (s : ByteArray) (m : Nat) (hs : s.size = 2 * (m + 2)) (hm : m ≤ 900) (hok : chkE (bs s) = 0) :
  Calls Tryz.prog 81 #[.string s] w fun e w' => (∃ f, e = .returned (.tuple #[.string (strB (bitsS (vdec m (bs s) 0))), .int .i64 (vst (bs s) 0), f, .int .i64 0])) ∧ Below w.heap.size w w' := by
 have Hc := Lib.hid (fun W => rck10_any W s (m + 2) hs (by omega) (by omega) hok)
 have Hst := Lib.hid (fun W => rtable_any W s (m + 2) hs (by omega))
 have hdiv : Int.tdiv (s.size : Int) 2 = (m : Int) + 2 := by rw [hs, Int.tdiv_eq_ediv_of_nonneg (by omega)]; omega
 have hmJ : (m : Int) ≤ 900 := by omega
 go_enter Tryz.func81, Tryz.ntmps81
 go_wp2_with fail
 refine (Hc.out _).mono ?_
 rintro e w' ⟨rfl, rfl⟩
 go_wp2_with fail
 refine (Hst.out _).mono ?_
 rintro e w2 ⟨G, rfl, hG, hS, hb2⟩
 have HS := Lib.hid hS
 have hGl := hS.lt (by omega)
 have HB2 := Lib.hid hb2
 have HK0 := Lib.hid (own_empty w2 5 1)
 have HA0 := Lib.hid ((Below.refl w2.heap.size w2).alloc (Nat.le_refl _) (.cells #[] 5))
 clear hS hb2 Hc Hst
 go_wp2_with fail
 go_loopw [8, 9, 10] (fun v st c wr => ∃ (i t : Nat) (u : List Nat), i ≤ m ∧ st = .int .i64 (t : Int) ∧ c = .int .i64 (i : Int) ∧ vrun (bs s) i u t ∧ wr.ownsRow w2.heap.size 5 1 v i ((bitsS u).map u8V) ∧ Below w2.heap.size w2 wr) (fun _ _ c _ => m - (intOf c).toNat)
 case atStart => exact ⟨0, 0, [], by omega, rfl, rfl, vrun_zero _, HK0.out, HA0.out⟩
 case round =>
  obtain ⟨i, t, u, hi, rfl, rfl, hr, ho, hB⟩ := hrel
  clear HK0 HA0
  have hSr := HS.out.kept (by omega) hB
  have ht4 : t < 4 := hr.2.2.1
  have Ho := Lib.hid ho
  have HBr := Lib.hid hB
  have hBs := hB.size
  have hGr : G < wr.heap.size := by omega
  clear ho hB
  by_cases h : i < m
  ·obtain ⟨x, y, hxy, hdr⟩ := drop_pair (s := s) (k := i) (by omega)
   obtain ⟨q, hq⟩ := hSr.at' (i + 1) (by omega) (by omega)
   obtain ⟨q0, hq0⟩ := hSr.at' i (by omega) (by omega)
   have hbd : ∀ j, -1 ≤ stgOf s (i + 1) j ∧ stgOf s (i + 1) j ≤ 1000000 := fun j => by
    unfold stgOf
    have h1 := vst_ge ((bs s).drop (2 * (i + 1))) j
    have h2 := vst_le ((bs s).drop (2 * (i + 1))) j
    have h3 : ((bs s).drop (2 * (i + 1))).length ≤ 2000 := by rw [List.length_drop, bs_len]; omega
    omega
   have hV0 : stgOf s i t = brc x y (stgOf s (i + 1)) t (vbit x y (stgOf s (i + 1)) t) := by
    unfold stgOf
    rw [hdr, vst]
   have HM := Lib.hid (fun W => rmis_any W s (outS t 0) i x y (co1 t 0) (co2 t 0) _ (by omega) (by omega) (bs_outS t 0) hdr)
   have HN := fun b (hb : vbit x y (vst ((bs s).drop (2 * (i + 1)))) t = b) => vrun_step hr hdr hb
   have HNx := Lib.hid HN
   change Hid (∀ b, vbit x y (stgOf s (i + 1)) t = b → _) at HNx
   have Hneg := Lib.hid (fun h => rbit_neg (x := x) (y := y) (V := stgOf s (i + 1)) (t := t) h)
   have Hone := Lib.hid (fun h h2 => rbit_one (x := x) (y := y) (V := stgOf s (i + 1)) (t := t) h h2)
   have Hzero := Lib.hid (fun h h2 => rbit_zero (x := x) (y := y) (V := stgOf s (i + 1)) (t := t) h h2)
   rw [← hV0] at Hone Hzero
   have Hcm := Lib.hid (And.intro hq hq0)
   have Hbd := Lib.hid hbd
   have hmb := msmTo_bd [x, y] [co1 t 0, co2 t 0] 2
   generalize hbv : vbit x y (stgOf s (i + 1)) t = bv at *
   have Hul : Hid (u.length = i) := Lib.hid hr.1
   clear HN hV0 hbd hq hq0 hdr hxy hr hSr hbv
   generalize stgOf s (i + 1) = V1 at *
   generalize stgOf s i = V0 at *
   generalize msmTo [x, y] [co1 t 0, co2 t 0] 2 = M at *
   have hiJ : (i : Int) < m := by omega
   have et : ((i : Int) + 1).toNat = i + 1 := by omega
   have ew3 : IntKind.i64.wrap ((i : Int) + 1) = i + 1 := by rw [IntKind.wrap_i64]; omega
   have b8 : (0 : Int) ≤ i + 1 := by omega
   have b2 : (i : Int) + 1 < m + 2 + 1 := by omega
   have b3 : (i : Int) < m + 2 + 1 := by omega
   have hi9 : i ≤ 900000 := by omega
   rcases (by omega : t = 0 ∨ t = 1 ∨ t = 2 ∨ t = 3) with rfl | rfl | rfl | rfl
   ·rw [show ((0 : Nat) : Int) = 0 from rfl]
    have hN0 : Hid (∀ W, Calls Tryz.prog 140 #[.int .i64 0, .int .i64 0] W fun e w' => e = .returned (.tuple #[.int .i64 0, .string (outS 0 0)]) ∧ Below W.heap.size W w') := Lib.hid (fun W => rnext_any W 0 0 (by omega) (by omega))
    have hN1 : Hid (∀ W, Calls Tryz.prog 140 #[.int .i64 0, .int .i64 1] W fun e w' => e = .returned (.tuple #[.int .i64 2, .string (outS 0 1)]) ∧ Below W.heap.size W w') := Lib.hid (fun W => rnext_any W 0 1 (by omega) (by omega))
    go_wp2_with fail
    refine (hN0.out _).mono ?_
    rintro e w3 ⟨rfl, hb3⟩
    have Hcm3 := Lib.hid (And.intro (R8.keep Hcm.out.1 hb3) (R8.keep Hcm.out.2 hb3))
    have Ho3 := Lib.hid (own_keep Ho.out hb3)
    have HB3 := Lib.hid (HBr.out.trans (hb3.mono HBr.out.size))
    clear Hcm Ho HBr hb3 hN0
    have c1 : w3.cell? ⟨G, (i + 1) * 8, none⟩ = some (.int .i64 (V1 0)) := Hcm3.out.1 0 _ rfl
    have c0 : w3.cell? ⟨G, i * 8, none⟩ = some (.int .i64 (V0 0)) := Hcm3.out.2 0 _ rfl
    have hb1 := Hbd.out 0
    have HA : Hid (V1 0 < 0 → bv = 1) := Hneg
    have HB : Hid (0 ≤ V1 0 → M + V1 0 ≠ V0 0 → bv = 1) := Hone
    have HC : Hid (0 ≤ V1 0 → M + V1 0 = V0 0 → bv = 0) := Hzero
    have HY0 : Hid (bv = 0 → vrun (bs s) (i + 1) (u ++ [0]) 0) := Lib.hid (fun e => HNx.out 0 e)
    have HY1 : Hid (bv = 1 → vrun (bs s) (i + 1) (u ++ [1]) 2) := Lib.hid (fun e => HNx.out 1 e)
    clear Hneg Hone Hzero HNx Hcm3 Hbd
    generalize V1 0 = vn at *
    generalize V0 0 = v0 at *
    rcases (by omega : vn < 0 ∨ (0 ≤ vn ∧ M + vn ≠ v0) ∨ (0 ≤ vn ∧ M + vn = v0)) with h1 | ⟨h1, h2⟩ | ⟨h1, h2⟩
    ·have d1 : decide (vn < 0) = true := by simpa using h1
     have HX := Lib.hid (HY1.out (HA.out h1))
     clear h1 HA HB HC HY0 HY1
     go_upto_region 12 with fail
     go_quiet (fail)
     have Ho4 := Lib.hid (own_keep Ho3.out (below_drewN (Below.refl _ _) nq))
     have HB4 := Lib.hid (below_drewN HB3.out nq)
     clear c0 c1 Ho3 HB3
     generalize w3.drewN nq = w4 at *
     go_wp2_with fail
     refine (hN1.out _).mono ?_
     rintro e w5 ⟨rfl, hb5⟩
     have Ho5 := Lib.hid (own_keep Ho4.out hb5)
     have HB5 := Lib.hid (HB4.out.trans (hb5.mono HB4.out.size))
     clear hb5 Ho4 HB4
     have hB5z := HB5.out.size
     go_wp2_with (at_builtin; refine wpList_app1 (x := 49) rfl _ _ rfl rfl rfl Ho5.out hi9 hB5z ?_; intro v1 w6 ho1 hb6)
     go_roundw
     case rel => exact ⟨i + 1, 2, u ++ [1], by omega, rfl, by go_num, HX.out, by unfold bitsS at ho1 ⊢; simpa using ho1, HB5.out.trans hb6⟩
     case measure => simp [intOf]; omega
    ·have d1 : decide (vn < 0) = false := by simp; omega
     have d2 : (M + vn != v0) = true := by simpa using h2
     have HX := Lib.hid (HY1.out (HB.out (by omega) h2))
     clear h1 h2 HA HB HC HY0 HY1
     go_upto_region 12 with fail
     go_quiet (first | (go_at_call 141; refine Calls.quiet_of (HM.out _)))
     have Ho4 := Lib.hid (own_keep Ho3.out (below_drewN (Below.refl _ _) nq))
     have HB4 := Lib.hid (below_drewN HB3.out nq)
     clear c0 c1 Ho3 HB3
     generalize w3.drewN nq = w4 at *
     go_wp2_with fail
     refine (hN1.out _).mono ?_
     rintro e w5 ⟨rfl, hb5⟩
     have Ho5 := Lib.hid (own_keep Ho4.out hb5)
     have HB5 := Lib.hid (HB4.out.trans (hb5.mono HB4.out.size))
     clear hb5 Ho4 HB4
     have hB5z := HB5.out.size
     go_wp2_with (at_builtin; refine wpList_app1 (x := 49) rfl _ _ rfl rfl rfl Ho5.out hi9 hB5z ?_; intro v1 w6 ho1 hb6)
     go_roundw
     case rel => exact ⟨i + 1, 2, u ++ [1], by omega, rfl, by go_num, HX.out, by unfold bitsS at ho1 ⊢; simpa using ho1, HB5.out.trans hb6⟩
     case measure => simp [intOf]; omega
    ·have d1 : decide (vn < 0) = false := by simp; omega
     have d2 : (M + vn != v0) = false := by simpa using h2
     have HX := Lib.hid (HY0.out (HC.out (by omega) h2))
     clear h1 h2 HA HB HC HY0 HY1
     go_upto_region 12 with fail
     go_quiet (first | (go_at_call 141; refine Calls.quiet_of (HM.out _)))
     have Ho4 := Lib.hid (own_keep Ho3.out (below_drewN (Below.refl _ _) nq))
     have HB4 := Lib.hid (below_drewN HB3.out nq)
     clear c0 c1 Ho3 HB3
     generalize w3.drewN nq = w4 at *
     have Ho5 := Ho4
     have HB5 := HB4
     clear Ho4 HB4
     have hB5z := HB5.out.size
     go_wp2_with (at_builtin; refine wpList_app1 (x := 48) rfl _ _ rfl rfl rfl Ho5.out hi9 hB5z ?_; intro v1 w6 ho1 hb6)
     go_roundw
     case rel => exact ⟨i + 1, 0, u ++ [0], by omega, rfl, by go_num, HX.out, by unfold bitsS at ho1 ⊢; simpa using ho1, HB5.out.trans hb6⟩
     case measure => simp [intOf]; omega
   ·rw [show ((1 : Nat) : Int) = 1 from rfl]
    have hN0 : Hid (∀ W, Calls Tryz.prog 140 #[.int .i64 1, .int .i64 0] W fun e w' => e = .returned (.tuple #[.int .i64 0, .string (outS 1 0)]) ∧ Below W.heap.size W w') := Lib.hid (fun W => rnext_any W 1 0 (by omega) (by omega))
    have hN1 : Hid (∀ W, Calls Tryz.prog 140 #[.int .i64 1, .int .i64 1] W fun e w' => e = .returned (.tuple #[.int .i64 2, .string (outS 1 1)]) ∧ Below W.heap.size W w') := Lib.hid (fun W => rnext_any W 1 1 (by omega) (by omega))
    go_wp2_with fail
    refine (hN0.out _).mono ?_
    rintro e w3 ⟨rfl, hb3⟩
    have Hcm3 := Lib.hid (And.intro (R8.keep Hcm.out.1 hb3) (R8.keep Hcm.out.2 hb3))
    have Ho3 := Lib.hid (own_keep Ho.out hb3)
    have HB3 := Lib.hid (HBr.out.trans (hb3.mono HBr.out.size))
    clear Hcm Ho HBr hb3 hN0
    have c1 : w3.cell? ⟨G, (i + 1) * 8, none⟩ = some (.int .i64 (V1 0)) := Hcm3.out.1 0 _ rfl
    have c0 : w3.cell? ⟨G, i * 8 + 2, none⟩ = some (.int .i64 (V0 1)) := Hcm3.out.2 2 _ rfl
    have hb1 := Hbd.out 0
    have HA : Hid (V1 0 < 0 → bv = 1) := Hneg
    have HB : Hid (0 ≤ V1 0 → M + V1 0 ≠ V0 1 → bv = 1) := Hone
    have HC : Hid (0 ≤ V1 0 → M + V1 0 = V0 1 → bv = 0) := Hzero
    have HY0 : Hid (bv = 0 → vrun (bs s) (i + 1) (u ++ [0]) 0) := Lib.hid (fun e => HNx.out 0 e)
    have HY1 : Hid (bv = 1 → vrun (bs s) (i + 1) (u ++ [1]) 2) := Lib.hid (fun e => HNx.out 1 e)
    clear Hneg Hone Hzero HNx Hcm3 Hbd
    generalize V1 0 = vn at *
    generalize V0 1 = v0 at *
    rcases (by omega : vn < 0 ∨ (0 ≤ vn ∧ M + vn ≠ v0) ∨ (0 ≤ vn ∧ M + vn = v0)) with h1 | ⟨h1, h2⟩ | ⟨h1, h2⟩
    ·have d1 : decide (vn < 0) = true := by simpa using h1
     have HX := Lib.hid (HY1.out (HA.out h1))
     clear h1 HA HB HC HY0 HY1
     go_upto_region 12 with fail
     go_quiet (fail)
     have Ho4 := Lib.hid (own_keep Ho3.out (below_drewN (Below.refl _ _) nq))
     have HB4 := Lib.hid (below_drewN HB3.out nq)
     clear c0 c1 Ho3 HB3
     generalize w3.drewN nq = w4 at *
     go_wp2_with fail
     refine (hN1.out _).mono ?_
     rintro e w5 ⟨rfl, hb5⟩
     have Ho5 := Lib.hid (own_keep Ho4.out hb5)
     have HB5 := Lib.hid (HB4.out.trans (hb5.mono HB4.out.size))
     clear hb5 Ho4 HB4
     have hB5z := HB5.out.size
     go_wp2_with (at_builtin; refine wpList_app1 (x := 49) rfl _ _ rfl rfl rfl Ho5.out hi9 hB5z ?_; intro v1 w6 ho1 hb6)
     go_roundw
     case rel => exact ⟨i + 1, 2, u ++ [1], by omega, rfl, by go_num, HX.out, by unfold bitsS at ho1 ⊢; simpa using ho1, HB5.out.trans hb6⟩
     case measure => simp [intOf]; omega
    ·have d1 : decide (vn < 0) = false := by simp; omega
     have d2 : (M + vn != v0) = true := by simpa using h2
     have HX := Lib.hid (HY1.out (HB.out (by omega) h2))
     clear h1 h2 HA HB HC HY0 HY1
     go_upto_region 12 with fail
     go_quiet (first | (go_at_call 141; refine Calls.quiet_of (HM.out _)))
     have Ho4 := Lib.hid (own_keep Ho3.out (below_drewN (Below.refl _ _) nq))
     have HB4 := Lib.hid (below_drewN HB3.out nq)
     clear c0 c1 Ho3 HB3
     generalize w3.drewN nq = w4 at *
     go_wp2_with fail
     refine (hN1.out _).mono ?_
     rintro e w5 ⟨rfl, hb5⟩
     have Ho5 := Lib.hid (own_keep Ho4.out hb5)
     have HB5 := Lib.hid (HB4.out.trans (hb5.mono HB4.out.size))
     clear hb5 Ho4 HB4
     have hB5z := HB5.out.size
     go_wp2_with (at_builtin; refine wpList_app1 (x := 49) rfl _ _ rfl rfl rfl Ho5.out hi9 hB5z ?_; intro v1 w6 ho1 hb6)
     go_roundw
     case rel => exact ⟨i + 1, 2, u ++ [1], by omega, rfl, by go_num, HX.out, by unfold bitsS at ho1 ⊢; simpa using ho1, HB5.out.trans hb6⟩
     case measure => simp [intOf]; omega
    ·have d1 : decide (vn < 0) = false := by simp; omega
     have d2 : (M + vn != v0) = false := by simpa using h2
     have HX := Lib.hid (HY0.out (HC.out (by omega) h2))
     clear h1 h2 HA HB HC HY0 HY1
     go_upto_region 12 with fail
     go_quiet (first | (go_at_call 141; refine Calls.quiet_of (HM.out _)))
     have Ho4 := Lib.hid (own_keep Ho3.out (below_drewN (Below.refl _ _) nq))
     have HB4 := Lib.hid (below_drewN HB3.out nq)
     clear c0 c1 Ho3 HB3
     generalize w3.drewN nq = w4 at *
     have Ho5 := Ho4
     have HB5 := HB4
     clear Ho4 HB4
     have hB5z := HB5.out.size
     go_wp2_with (at_builtin; refine wpList_app1 (x := 48) rfl _ _ rfl rfl rfl Ho5.out hi9 hB5z ?_; intro v1 w6 ho1 hb6)
     go_roundw
     case rel => exact ⟨i + 1, 0, u ++ [0], by omega, rfl, by go_num, HX.out, by unfold bitsS at ho1 ⊢; simpa using ho1, HB5.out.trans hb6⟩
     case measure => simp [intOf]; omega
   ·rw [show ((2 : Nat) : Int) = 2 from rfl]
    have hN0 : Hid (∀ W, Calls Tryz.prog 140 #[.int .i64 2, .int .i64 0] W fun e w' => e = .returned (.tuple #[.int .i64 1, .string (outS 2 0)]) ∧ Below W.heap.size W w') := Lib.hid (fun W => rnext_any W 2 0 (by omega) (by omega))
    have hN1 : Hid (∀ W, Calls Tryz.prog 140 #[.int .i64 2, .int .i64 1] W fun e w' => e = .returned (.tuple #[.int .i64 3, .string (outS 2 1)]) ∧ Below W.heap.size W w') := Lib.hid (fun W => rnext_any W 2 1 (by omega) (by omega))
    go_wp2_with fail
    refine (hN0.out _).mono ?_
    rintro e w3 ⟨rfl, hb3⟩
    have Hcm3 := Lib.hid (And.intro (R8.keep Hcm.out.1 hb3) (R8.keep Hcm.out.2 hb3))
    have Ho3 := Lib.hid (own_keep Ho.out hb3)
    have HB3 := Lib.hid (HBr.out.trans (hb3.mono HBr.out.size))
    clear Hcm Ho HBr hb3 hN0
    have c1 : w3.cell? ⟨G, (i + 1) * 8 + 2, none⟩ = some (.int .i64 (V1 1)) := Hcm3.out.1 2 _ rfl
    have c0 : w3.cell? ⟨G, i * 8 + 4, none⟩ = some (.int .i64 (V0 2)) := Hcm3.out.2 4 _ rfl
    have hb1 := Hbd.out 1
    have HA : Hid (V1 1 < 0 → bv = 1) := Hneg
    have HB : Hid (0 ≤ V1 1 → M + V1 1 ≠ V0 2 → bv = 1) := Hone
    have HC : Hid (0 ≤ V1 1 → M + V1 1 = V0 2 → bv = 0) := Hzero
    have HY0 : Hid (bv = 0 → vrun (bs s) (i + 1) (u ++ [0]) 1) := Lib.hid (fun e => HNx.out 0 e)
    have HY1 : Hid (bv = 1 → vrun (bs s) (i + 1) (u ++ [1]) 3) := Lib.hid (fun e => HNx.out 1 e)
    clear Hneg Hone Hzero HNx Hcm3 Hbd
    generalize V1 1 = vn at *
    generalize V0 2 = v0 at *
    rcases (by omega : vn < 0 ∨ (0 ≤ vn ∧ M + vn ≠ v0) ∨ (0 ≤ vn ∧ M + vn = v0)) with h1 | ⟨h1, h2⟩ | ⟨h1, h2⟩
    ·have d1 : decide (vn < 0) = true := by simpa using h1
     have HX := Lib.hid (HY1.out (HA.out h1))
     clear h1 HA HB HC HY0 HY1
     go_upto_region 12 with fail
     go_quiet (fail)
     have Ho4 := Lib.hid (own_keep Ho3.out (below_drewN (Below.refl _ _) nq))
     have HB4 := Lib.hid (below_drewN HB3.out nq)
     clear c0 c1 Ho3 HB3
     generalize w3.drewN nq = w4 at *
     go_wp2_with fail
     refine (hN1.out _).mono ?_
     rintro e w5 ⟨rfl, hb5⟩
     have Ho5 := Lib.hid (own_keep Ho4.out hb5)
     have HB5 := Lib.hid (HB4.out.trans (hb5.mono HB4.out.size))
     clear hb5 Ho4 HB4
     have hB5z := HB5.out.size
     go_wp2_with (at_builtin; refine wpList_app1 (x := 49) rfl _ _ rfl rfl rfl Ho5.out hi9 hB5z ?_; intro v1 w6 ho1 hb6)
     go_roundw
     case rel => exact ⟨i + 1, 3, u ++ [1], by omega, rfl, by go_num, HX.out, by unfold bitsS at ho1 ⊢; simpa using ho1, HB5.out.trans hb6⟩
     case measure => simp [intOf]; omega
    ·have d1 : decide (vn < 0) = false := by simp; omega
     have d2 : (M + vn != v0) = true := by simpa using h2
     have HX := Lib.hid (HY1.out (HB.out (by omega) h2))
     clear h1 h2 HA HB HC HY0 HY1
     go_upto_region 12 with fail
     go_quiet (first | (go_at_call 141; refine Calls.quiet_of (HM.out _)))
     have Ho4 := Lib.hid (own_keep Ho3.out (below_drewN (Below.refl _ _) nq))
     have HB4 := Lib.hid (below_drewN HB3.out nq)
     clear c0 c1 Ho3 HB3
     generalize w3.drewN nq = w4 at *
     go_wp2_with fail
     refine (hN1.out _).mono ?_
     rintro e w5 ⟨rfl, hb5⟩
     have Ho5 := Lib.hid (own_keep Ho4.out hb5)
     have HB5 := Lib.hid (HB4.out.trans (hb5.mono HB4.out.size))
     clear hb5 Ho4 HB4
     have hB5z := HB5.out.size
     go_wp2_with (at_builtin; refine wpList_app1 (x := 49) rfl _ _ rfl rfl rfl Ho5.out hi9 hB5z ?_; intro v1 w6 ho1 hb6)
     go_roundw
     case rel => exact ⟨i + 1, 3, u ++ [1], by omega, rfl, by go_num, HX.out, by unfold bitsS at ho1 ⊢; simpa using ho1, HB5.out.trans hb6⟩
     case measure => simp [intOf]; omega
    ·have d1 : decide (vn < 0) = false := by simp; omega
     have d2 : (M + vn != v0) = false := by simpa using h2
     have HX := Lib.hid (HY0.out (HC.out (by omega) h2))
     clear h1 h2 HA HB HC HY0 HY1
     go_upto_region 12 with fail
     go_quiet (first | (go_at_call 141; refine Calls.quiet_of (HM.out _)))
     have Ho4 := Lib.hid (own_keep Ho3.out (below_drewN (Below.refl _ _) nq))
     have HB4 := Lib.hid (below_drewN HB3.out nq)
     clear c0 c1 Ho3 HB3
     generalize w3.drewN nq = w4 at *
     have Ho5 := Ho4
     have HB5 := HB4
     clear Ho4 HB4
     have hB5z := HB5.out.size
     go_wp2_with (at_builtin; refine wpList_app1 (x := 48) rfl _ _ rfl rfl rfl Ho5.out hi9 hB5z ?_; intro v1 w6 ho1 hb6)
     go_roundw
     case rel => exact ⟨i + 1, 1, u ++ [0], by omega, rfl, by go_num, HX.out, by unfold bitsS at ho1 ⊢; simpa using ho1, HB5.out.trans hb6⟩
     case measure => simp [intOf]; omega
   ·rw [show ((3 : Nat) : Int) = 3 from rfl]
    have hN0 : Hid (∀ W, Calls Tryz.prog 140 #[.int .i64 3, .int .i64 0] W fun e w' => e = .returned (.tuple #[.int .i64 1, .string (outS 3 0)]) ∧ Below W.heap.size W w') := Lib.hid (fun W => rnext_any W 3 0 (by omega) (by omega))
    have hN1 : Hid (∀ W, Calls Tryz.prog 140 #[.int .i64 3, .int .i64 1] W fun e w' => e = .returned (.tuple #[.int .i64 3, .string (outS 3 1)]) ∧ Below W.heap.size W w') := Lib.hid (fun W => rnext_any W 3 1 (by omega) (by omega))
    go_wp2_with fail
    refine (hN0.out _).mono ?_
    rintro e w3 ⟨rfl, hb3⟩
    have Hcm3 := Lib.hid (And.intro (R8.keep Hcm.out.1 hb3) (R8.keep Hcm.out.2 hb3))
    have Ho3 := Lib.hid (own_keep Ho.out hb3)
    have HB3 := Lib.hid (HBr.out.trans (hb3.mono HBr.out.size))
    clear Hcm Ho HBr hb3 hN0
    have c1 : w3.cell? ⟨G, (i + 1) * 8 + 2, none⟩ = some (.int .i64 (V1 1)) := Hcm3.out.1 2 _ rfl
    have c0 : w3.cell? ⟨G, i * 8 + 6, none⟩ = some (.int .i64 (V0 3)) := Hcm3.out.2 6 _ rfl
    have hb1 := Hbd.out 1
    have HA : Hid (V1 1 < 0 → bv = 1) := Hneg
    have HB : Hid (0 ≤ V1 1 → M + V1 1 ≠ V0 3 → bv = 1) := Hone
    have HC : Hid (0 ≤ V1 1 → M + V1 1 = V0 3 → bv = 0) := Hzero
    have HY0 : Hid (bv = 0 → vrun (bs s) (i + 1) (u ++ [0]) 1) := Lib.hid (fun e => HNx.out 0 e)
    have HY1 : Hid (bv = 1 → vrun (bs s) (i + 1) (u ++ [1]) 3) := Lib.hid (fun e => HNx.out 1 e)
    clear Hneg Hone Hzero HNx Hcm3 Hbd
    generalize V1 1 = vn at *
    generalize V0 3 = v0 at *
    rcases (by omega : vn < 0 ∨ (0 ≤ vn ∧ M + vn ≠ v0) ∨ (0 ≤ vn ∧ M + vn = v0)) with h1 | ⟨h1, h2⟩ | ⟨h1, h2⟩
    ·have d1 : decide (vn < 0) = true := by simpa using h1
     have HX := Lib.hid (HY1.out (HA.out h1))
     clear h1 HA HB HC HY0 HY1
     go_upto_region 12 with fail
     go_quiet (fail)
     have Ho4 := Lib.hid (own_keep Ho3.out (below_drewN (Below.refl _ _) nq))
     have HB4 := Lib.hid (below_drewN HB3.out nq)
     clear c0 c1 Ho3 HB3
     generalize w3.drewN nq = w4 at *
     go_wp2_with fail
     refine (hN1.out _).mono ?_
     rintro e w5 ⟨rfl, hb5⟩
     have Ho5 := Lib.hid (own_keep Ho4.out hb5)
     have HB5 := Lib.hid (HB4.out.trans (hb5.mono HB4.out.size))
     clear hb5 Ho4 HB4
     have hB5z := HB5.out.size
     go_wp2_with (at_builtin; refine wpList_app1 (x := 49) rfl _ _ rfl rfl rfl Ho5.out hi9 hB5z ?_; intro v1 w6 ho1 hb6)
     go_roundw
     case rel => exact ⟨i + 1, 3, u ++ [1], by omega, rfl, by go_num, HX.out, by unfold bitsS at ho1 ⊢; simpa using ho1, HB5.out.trans hb6⟩
     case measure => simp [intOf]; omega
    ·have d1 : decide (vn < 0) = false := by simp; omega
     have d2 : (M + vn != v0) = true := by simpa using h2
     have HX := Lib.hid (HY1.out (HB.out (by omega) h2))
     clear h1 h2 HA HB HC HY0 HY1
     go_upto_region 12 with fail
     go_quiet (first | (go_at_call 141; refine Calls.quiet_of (HM.out _)))
     have Ho4 := Lib.hid (own_keep Ho3.out (below_drewN (Below.refl _ _) nq))
     have HB4 := Lib.hid (below_drewN HB3.out nq)
     clear c0 c1 Ho3 HB3
     generalize w3.drewN nq = w4 at *
     go_wp2_with fail
     refine (hN1.out _).mono ?_
     rintro e w5 ⟨rfl, hb5⟩
     have Ho5 := Lib.hid (own_keep Ho4.out hb5)
     have HB5 := Lib.hid (HB4.out.trans (hb5.mono HB4.out.size))
     clear hb5 Ho4 HB4
     have hB5z := HB5.out.size
     go_wp2_with (at_builtin; refine wpList_app1 (x := 49) rfl _ _ rfl rfl rfl Ho5.out hi9 hB5z ?_; intro v1 w6 ho1 hb6)
     go_roundw
     case rel => exact ⟨i + 1, 3, u ++ [1], by omega, rfl, by go_num, HX.out, by unfold bitsS at ho1 ⊢; simpa using ho1, HB5.out.trans hb6⟩
     case measure => simp [intOf]; omega
    ·have d1 : decide (vn < 0) = false := by simp; omega
     have d2 : (M + vn != v0) = false := by simpa using h2
     have HX := Lib.hid (HY0.out (HC.out (by omega) h2))
     clear h1 h2 HA HB HC HY0 HY1
     go_upto_region 12 with fail
     go_quiet (first | (go_at_call 141; refine Calls.quiet_of (HM.out _)))
     have Ho4 := Lib.hid (own_keep Ho3.out (below_drewN (Below.refl _ _) nq))
     have HB4 := Lib.hid (below_drewN HB3.out nq)
     clear c0 c1 Ho3 HB3
     generalize w3.drewN nq = w4 at *
     have Ho5 := Ho4
     have HB5 := HB4
     clear Ho4 HB4
     have hB5z := HB5.out.size
     go_wp2_with (at_builtin; refine wpList_app1 (x := 48) rfl _ _ rfl rfl rfl Ho5.out hi9 hB5z ?_; intro v1 w6 ho1 hb6)
     go_roundw
     case rel => exact ⟨i + 1, 1, u ++ [0], by omega, rfl, by go_num, HX.out, by unfold bitsS at ho1 ⊢; simpa using ho1, HB5.out.trans hb6⟩
     case measure => simp [intOf]; omega
  ·obtain rfl : i = m := by omega
   obtain ⟨q, hq⟩ := hSr.at' 0 (by omega) (by omega)
   have c0 : wr.cell? ⟨G, 0, none⟩ = some (.int .i64 (vst (bs s) 0)) := hq 0 _ rfl
   have c1 : wr.cell? ⟨G, 1, none⟩ = some (.int .i64 (q 0)) := hq 1 _ rfl
   have hv := BytesAt.of_own Ho.out
   have hbu : vdec i (bs s) 0 = u := by
    have h4 := hr.2.2.2 0
    rw [Nat.add_zero] at h4
    rw [h4]
    unfold vdec
    simp
   obtain ⟨A, cc, rfl, hc1, hc2, hc3⟩ := hv
   have hcs := run_toStr (W := wr.drew) ⟨A, cc, rfl, hc1, hc2, hc3⟩ rfl
   have HR := Lib.hid (HB2.out.trans (HBr.out.mono HB2.out.size))
   have Hbu := Lib.hid hbu
   have b0 : (0 : Int) < i + 2 + 1 := by omega
   clear hc3 hr hq hbu hSr Ho
   go_upto_region 17 with fail
   refine wp_region_held_drew (S := (fun w' => (convert 100 9 (.slice A (bitsS u).length cc)).run Tryz.prog w' = .ok (.string (strB (bitsS u))) w' ∧ w'.cell? ⟨G, 0, none⟩ = some (.int .i64 (vst (bs s) 0)) ∧ w'.cell? ⟨G, 1, none⟩ = some (.int .i64 (q 0)))) (by kernel_rfl) ?_ (fun hHeld => ?_)
   ·exact ⟨hcs, c0, c1⟩
   refine tk 0 ?_
   refine tk 1 ?_
   refine tk 2 ?_
   refine tk 3 ?_
   refine tk 4 ?_
   refine tk 5 ?_
   refine tk 6 ?_
   refine tk 7 ?_
   refine tk 8 ?_
   refine tk 9 ?_
   refine tk 10 ?_
   refine tk 11 ?_
   refine tk 12 ?_
   refine tk 13 ?_
   refine tk 14 ?_
   refine tk 15 ?_
   refine tk 16 ?_
   refine wpAnyH_done (by kernel_rfl) ?_ _
   go_wp2
   rw [Hbu.out]
   exact bodyPost_ret (v := .tuple #[.string (strB (bitsS u)), .int .i64 (vst (bs s) 0), .bool (q 0 == 1), .int .i64 0]) (by simp [results, Tryz.results81, go_sem]) rfl ⟨⟨_, rfl⟩, HR.out.drew⟩

end Go.Proofs.YtnlnmfkmbpihhaaGreatDoor
