/-
 WALKS: viterbi.branch.
 Laws for a region that draws, makes two structs of two ints and fills them.
-/
import Derived.Test.YtnlnmfkmbpihhaaGreatDoorStrW
import Derived.Lib.OthersKept
import Derived.Deep.RegionHeld3
import Derived.Deep.DeepCutAuto
namespace Go.Proofs.YtnlnmfkmbpihhaaGreatDoor
open Go.RowKit

/-- One quiet operation of a region taken. -/
theorem tk {P : Program} {ops : Array Oper} {Q : Exit → Act → World → Prop} {md : Region.Mode} {S : World → Prop} (i : Nat) {oi : Oper} {v : Value} {fuel : Nat} {listed ls : Array Bool} {a a' : Act} {w : World}
  (h : wpAnyH P md ops Q S fuel ls a' w) (hi : ops[i]? = some oi := by rfl) (hs : Region.noSelect ops = true := by kernel_rfl) (hf : Region.free md ops listed i = true := by kernel_rfl)
  (hr : (Region.ready md ops listed).contains i = true := by kernel_rfl) (hQ : ∀ c a w, Q (.panic c) (a.put oi.dst v) w → Q (.panic c) a w := by exact fun _ _ _ h => h)
  (hw : Region.wanted oi (yielded ops a.tmps) = true := by rfl) (hy : ∀ w, S w → (execOp a.eval oi).run P w = .ok (.value v) w := by (intro W hSw; (try dsimp only at hSw); go_simp; try with_reducible rfl)) (hS : S w := by assumption)
  (e1 : listed.setIfInBounds i true = ls := by (try simp only [List.setIfInBounds_toArray, List.set_cons_zero, List.set_cons_succ]); with_reducible rfl)
  (e2 : a.put oi.dst v = a' := by (try simp only [Act.put, List.setIfInBounds_toArray, List.set_cons_zero, List.set_cons_succ, List.getElem_toArray, List.getElem_cons_zero, List.getElem_cons_succ]); with_reducible rfl) :
  wpAnyH P md ops Q S (fuel + 1) listed a w := by
 subst e1 e2
 exact wpAnyH_take hi hs hf hr hQ (Or.inl ⟨hw, hy⟩) hS h
/-- Back into a region behind an operation. -/
theorem hko {P : Program} {ops : Array Oper} {Q : Exit → Act → World → Prop} {md : Region.Mode} {S : World → Prop} {i : Nat} {fuel : Nat} {listed ls : Array Bool} {K : Act → World → Prop} (hK : Shut (∀ a w, S w → (S w → wpAnyH P md ops Q S fuel (listed.setIfInBounds i true) a w) → K a w)) {a a' : Act} {w : World}
  (hS : S w) (h : S w → wpAnyH P md ops Q S fuel ls a' w)
  (e1 : listed.setIfInBounds i true = ls := by (try simp only [List.setIfInBounds_toArray, List.set_cons_zero, List.set_cons_succ]); with_reducible rfl)
  (e2 : a = a' := by (try simp only [Act.put, List.setIfInBounds_toArray, List.set_cons_zero, List.set_cons_succ, List.getElem_toArray, List.getElem_cons_zero, List.getElem_cons_succ]); with_reducible rfl) : K a w := by
 subst e1 e2
 exact hK.out _ _ hS h

/-- A stage as a value: costs a, numbers of paths g. -/
def stgV (a g : Nat → Int) : Value := .agg #[.int .i64 (a 0), .int .i64 (g 0), .int .i64 (a 1), .int .i64 (g 1), .int .i64 (a 2), .int .i64 (g 2), .int .i64 (a 3), .int .i64 (g 3)]
def sufV (c g : Int) : Value := .agg #[.int .i64 c, .int .i64 g]
/-- The cells that differ among the first j. -/
def msmTo (X O : List Nat) : Nat → Int
 | 0 => 0
 | j + 1 => msmTo X O j + msm (cf X j) (cf O j)
theorem msmTo_bd (X O : List Nat) : ∀ j, 0 ≤ msmTo X O j ∧ msmTo X O j ≤ j
 | 0 => by unfold msmTo; omega
 | j + 1 => by
  have := msmTo_bd X O j
  have := msm_01 (cf X j) (cf O j)
  unfold msmTo
  omega
theorem bs_outS (s b : Nat) : bs (outS s b) = [co1 s b, co2 s b] := bs_strB (out_bytes s b)
theorem cell_keep {w w' : World} {g : Nat} {t : TypeId} {us : List Value} (h : Blk w g t us) (hh : w'.heap[g]? = w.heap[g]?) : Blk w' g t us := hh.trans h

set_option maxRecDepth 100000 in
set_option maxHeartbeats 8000000 in
theorem vbranch_any (w : World) (p : ByteArray) (x y : Nat) (hp : bs p = [x, y]) (a g : Nat → Int) (ha : ∀ i, -1 ≤ a i ∧ a i ≤ 1000000) (s b : Nat) (hs : s < 4) (hb : b < 2) :
  Calls Tryz.prog 98 #[.string p, stgV a g, .int .i64 (s : Int), .int .i64 (b : Int)] w fun e w' => e = .returned (sufV (brc x y a s b) (g (cnx s b))) ∧ Below w.heap.size w w' := by
 have Hn := Lib.hid (fun W => vnext_any W s b hs hb)
 have hbr : brc x y a s b = if a (cnx s b) < 0 then a (cnx s b) else a (cnx s b) + msmTo [x, y] [co1 s b, co2 s b] 2 := by
  unfold brc
  split
  ·rfl
  ·show _ = _ + (0 + msm x (co1 s b) + msm y (co2 s b))
   omega
 rw [hbr]
 have hps : p.size = 2 := by rw [← bs_len, hp]; rfl
 have hos : (outS s b).size = 2 := by rw [← bs_len, bs_outS]; rfl
 have hpc : ∀ j (h : j < p.size), (p[j]'h).toNat = cf [x, y] j := fun j h => by rw [← bsc, hp]
 have hoc : ∀ j (h : j < (outS s b).size), ((outS s b)[j]'h).toNat = cf [co1 s b, co2 s b] j := fun j h => by rw [← bsc, bs_outS]
 have hol : ∀ j, j < 2 → cf [co1 s b, co2 s b] j < 128 := fun j hj => by
  rcases (by omega : j = 0 ∨ j = 1) with rfl | rfl
  ·show co1 s b < 128
   unfold co1; omega
  ·show co2 s b < 128
   unfold co2; omega
 unfold stgV
 have hnx := cnx_lt hs hb
 have hcb := ha (cnx s b)
 generalize outS s b = O at *
 generalize [co1 s b, co2 s b] = OL at *
 generalize [x, y] = XL at *
 generalize cnx s b = n at *
 obtain ⟨c, hc⟩ : ∃ c, a n = c := ⟨_, rfl⟩
 obtain ⟨q, hq⟩ : ∃ q, g n = q := ⟨_, rfl⟩
 rw [hc, hq]
 rw [hc] at hcb
 have Hpc := Lib.hid hpc
 have Hoc := Lib.hid hoc
 have Hol := Lib.hid hol
 have hps1 : 2 ≤ p.size := by omega
 have hps2 : p.size ≤ 2 := by omega
 have hos1 : 2 ≤ O.size := by omega
 have hos2 : O.size ≤ 2 := by omega
 clear hbr hpc hoc hol ha hps hos hp
 by_cases hneg : c < 0
 ·rw [if_pos hneg]
  have hnegI : decide (0 ≤ c) = false := by simpa using hneg
  rcases (by omega : n = 0 ∨ n = 1 ∨ n = 2 ∨ n = 3) with rfl | rfl | rfl | rfl
  all_goals
   go_enter Tryz.func98, Tryz.ntmps98
   go_wp2_with fail
   refine (Hn.out _).mono ?_
   rintro e w' ⟨rfl, rfl⟩
   go_wp2
   refine bodyPost_ret (v := sufV c q) (by simp [results, Tryz.results98, go_sem, sufV]) rfl ⟨rfl, ?_⟩
   exact (((Below.refl _ _).alloc (Nat.le_refl _) _).alloc (by simp) _).alloc (by simp; omega) _
 ·rw [if_neg hneg]
  have hnegI : decide (0 ≤ c) = true := by rw [decide_eq_true_eq]; omega
  rcases (by omega : n = 0 ∨ n = 1 ∨ n = 2 ∨ n = 3) with rfl | rfl | rfl | rfl
  all_goals
   go_enter Tryz.func98, Tryz.ntmps98
   go_wp2_with fail
   refine (Hn.out _).mono ?_
   rintro e w' ⟨rfl, rfl⟩
   go_wp2
   go_loopw [] (fun wr => ∃ j : Nat, j ≤ 2 ∧ wr.heap[w.heap.size + 1 + 1 + 1]? = some (.stringIter O j) ∧ Blk wr (w.heap.size + 1 + 1) 136 [.int .i64 (c + msmTo XL OL j), .int .i64 q] ∧ Blk wr (w.heap.size + 1) 136 [.int .i64 0, .int .i64 0] ∧ Below w.heap.size w wr) (fun wr => 2 - wr.iterPos (w.heap.size + 1 + 1 + 1))
   case atStart =>
    refine ⟨0, by omega, ?_, ?_, ?_, ?_⟩
    ·have := World.iter_heap (((w.alloc (.cells #[.int .i64 (a 0), .int .i64 (g 0), .int .i64 (a 1), .int .i64 (g 1), .int .i64 (a 2), .int .i64 (g 2), .int .i64 (a 3), .int .i64 (g 3)] 139)).alloc (.cells #[.int .i64 0, .int .i64 0] 136)).alloc (.cells #[.int .i64 c, .int .i64 q] 136)) O 0
     simpa [hc, hq] using this
    ·rw [show c + msmTo XL OL 0 = c from Int.add_zero c]
     refine Blk.alloc ?_ _
     have := Blk.new ((w.alloc (.cells #[.int .i64 (a 0), .int .i64 (g 0), .int .i64 (a 1), .int .i64 (g 1), .int .i64 (a 2), .int .i64 (g 2), .int .i64 (a 3), .int .i64 (g 3)] 139)).alloc (.cells #[.int .i64 0, .int .i64 0] 136)) 136 [.int .i64 c, .int .i64 q]
     simpa [hc, hq] using this
    ·refine Blk.alloc (Blk.alloc ?_ _) _
     have := Blk.new (w.alloc (.cells #[.int .i64 (a 0), .int .i64 (g 0), .int .i64 (a 1), .int .i64 (g 1), .int .i64 (a 2), .int .i64 (g 2), .int .i64 (a 3), .int .i64 (g 3)] 139)) 136 [.int .i64 0, .int .i64 0]
     simpa [hc, hq] using this
    ·exact ((((Below.refl _ _).alloc (Nat.le_refl _) _).alloc (by simp) _).alloc (by simp; omega) _).alloc (by simp; omega) _
   case round =>
    obtain ⟨j, hj, hit, hS, hR, hB⟩ := hrel
    have HS := Lib.hid hS
    have HR := Lib.hid hR
    have HBr := Lib.hid hB
    have Hit := Lib.hid hit
    clear hS hR hB
    by_cases h : j < 2
    ·have hjo : j < O.size := by omega
     have hjp : j < p.size := by omega
     have hjI : (j : Int) < p.size := by omega
     have hjJ : (j : Int) < O.size := by omega
     have hoj : ((O[j]'hjo)).toNat < 128 := by rw [Hoc.out j hjo]; exact Hol.out j h
     have hnxt : ∀ ty, (Instr.next (.pointer (some ⟨w.heap.size + 1 + 1 + 1, 0, none⟩)) true ty).run Tryz.prog wr = _ := fun ty => Lib.run_next_ascii_at wr (w.heap.size + 1 + 1 + 1) O j ty hit hjo hoj
     have hh := Lib.iterAt_heap wr (w.heap.size + 1 + 1 + 1) O j (j + 1) hit
     have hS2 : Blk (wr.iterAt (w.heap.size + 1 + 1 + 1) O (j + 1)) (w.heap.size + 1 + 1) 136 [.int .i64 (c + msmTo XL OL j), .int .i64 q] := cell_keep HS.out (Lib.iterAt_other _ _ _ _ _ (by omega))
     have hR2 : Blk (wr.iterAt (w.heap.size + 1 + 1 + 1) O (j + 1)) (w.heap.size + 1) 136 [.int .i64 0, .int .i64 0] := cell_keep HR.out (Lib.iterAt_other _ _ _ _ _ (by omega))
     have hB2 := Lib.below_iterAt HBr.out (k := w.heap.size + 1 + 1 + 1) (by omega) O (j + 1)
     obtain ⟨w5, hw5⟩ : ∃ w5, wr.iterAt (w.heap.size + 1 + 1 + 1) O (j + 1) = w5 := ⟨_, rfl⟩
     rw [hw5] at hh hS2 hR2 hB2
     have hnxt2 : ∀ ty, (Instr.next (.pointer (some ⟨w.heap.size + 1 + 1 + 1, 0, none⟩)) true ty).run Tryz.prog wr = .ok (.tuple #[.bool true, .int .i64 j, .int .i32 (O[j]'hjo).toNat]) w5 := fun ty => by rw [hnxt ty, hw5]
     have hxe := Hpc.out j hjp
     have hoe := Hoc.out j hjo
     have hms : msmTo XL OL (j + 1) = msmTo XL OL j + msm (cf XL j) (cf OL j) := rfl
     have hbd := msmTo_bd XL OL j
     have Hms := Lib.hid hms
     have Hh := Lib.hid hh
     have HS2 := Lib.hid hS2
     have HR2 := Lib.hid hR2
     have HB2 := Lib.hid hB2
     have hcs := Blk.cell hS2 (i := 0) (u := .int .i64 (c + msmTo XL OL j)) rfl
     have hfs := Blk.frozen hS2 0
     clear hnxt hit hw5 hms hh hS2 hR2 hB2 HS HR HBr
     generalize msmTo XL OL j = M at *
     generalize cf XL j = X at *
     generalize cf OL j = Y at *
     by_cases h63 : X = 63
     ·have h63I : ((X : Int) != 63) = false := by rw [bne_eq_false_iff_eq]; omega
      have e0 : msm X Y = 0 := by unfold msm; rw [if_pos (.inl h63)]
      have E0 := Lib.hid e0
      clear h63 e0
      go_wp2
      go_quiet (fail)
      go_wp2
      go_roundw
      case rel => exact ⟨j + 1, by omega, Hh.out, by rw [Hms.out, E0.out, Int.add_zero]; exact HS2.out, HR2.out, below_drewN HB2.out nq⟩
      case measure =>
       have e1 : (w5.drewN nq).iterPos (w.heap.size + 1 + 1 + 1) = j + 1 := by
        unfold World.iterPos
        rw [show (w5.drewN nq).heap[w.heap.size + 1 + 1 + 1]? = _ from Hh.out]
       have e2 : wr.iterPos (w.heap.size + 1 + 1 + 1) = j := by
        unfold World.iterPos
        rw [Hit.out]
       rw [e1, e2]
       omega
     ·have h63I : ((X : Int) != 63) = true := by rw [bne_iff_ne]; omega
      by_cases hXY : X = Y
      ·have hXYI : ((X : Int) != (Y : Int)) = false := by rw [bne_eq_false_iff_eq]; omega
       have e0 : msm X Y = 0 := by unfold msm; rw [if_pos (.inr hXY)]
       have E0 := Lib.hid e0
       clear h63 e0 hXY
       go_wp2
       go_quiet (fail)
       go_wp2
       go_roundw
       case rel => exact ⟨j + 1, by omega, Hh.out, by rw [Hms.out, E0.out, Int.add_zero]; exact HS2.out, HR2.out, below_drewN HB2.out nq⟩
       case measure =>
        have e1 : (w5.drewN nq).iterPos (w.heap.size + 1 + 1 + 1) = j + 1 := by
         unfold World.iterPos
         rw [show (w5.drewN nq).heap[w.heap.size + 1 + 1 + 1]? = _ from Hh.out]
        have e2 : wr.iterPos (w.heap.size + 1 + 1 + 1) = j := by
         unfold World.iterPos
         rw [Hit.out]
        rw [e1, e2]
        omega
      ·have hXYI : ((X : Int) != (Y : Int)) = true := by rw [bne_iff_ne]; omega
       have e0 : msm X Y = 1 := by unfold msm; rw [if_neg (by rintro (h | h); exact h63 h; exact hXY h)]
       have E0 := Lib.hid e0
       have HS3 : Hid (Blk (w5.setCell ⟨w.heap.size + 1 + 1, 0, none⟩ (.int .i64 (c + M + 1))) (w.heap.size + 1 + 1) 136 [.int .i64 (c + M + 1), .int .i64 q]) := Lib.hid (Blk.set HS2.out 0 _)
       have HR3 : Hid (Blk (w5.setCell ⟨w.heap.size + 1 + 1, 0, none⟩ (.int .i64 (c + M + 1))) (w.heap.size + 1) 136 [.int .i64 0, .int .i64 0]) := Lib.hid (Blk.far HR2.out (p := ⟨w.heap.size + 1 + 1, 0, none⟩) (by show w.heap.size + 1 ≠ w.heap.size + 1 + 1; omega) _)
       have HB3 := Lib.hid (HB2.out.setCell (p := ⟨w.heap.size + 1 + 1, 0, none⟩) (by show w.heap.size ≤ w.heap.size + 1 + 1; omega) (.int .i64 (c + M + 1)))
       have Hh3 : Hid ((w5.setCell ⟨w.heap.size + 1 + 1, 0, none⟩ (.int .i64 (c + M + 1))).heap[w.heap.size + 1 + 1 + 1]? = some (.stringIter O (j + 1))) := Lib.hid ((Below.heap_setCell w5 ⟨w.heap.size + 1 + 1, 0, none⟩ _ _ (by show w.heap.size + 1 + 1 + 1 ≠ w.heap.size + 1 + 1; omega)).trans Hh.out)
       clear h63 e0 hXY HS2 HR2 HB2 Hh
       go_wp2
       go_quiet (fail)
       go_wp2
       go_roundw
       case rel => exact ⟨j + 1, by omega, Hh3.out, by rw [Hms.out, E0.out, ← Int.add_assoc]; exact HS3.out, HR3.out, below_drewN HB3.out nq⟩
       case measure =>
        have e1 : ((w5.drewN nq).setCell ⟨w.heap.size + 1 + 1, 0, none⟩ (.int .i64 (c + M + 1))).iterPos (w.heap.size + 1 + 1 + 1) = j + 1 := by
         unfold World.iterPos
         rw [show ((w5.drewN nq).setCell ⟨w.heap.size + 1 + 1, 0, none⟩ (.int .i64 (c + M + 1))).heap[w.heap.size + 1 + 1 + 1]? = _ from Hh3.out]
        have e2 : wr.iterPos (w.heap.size + 1 + 1 + 1) = j := by
         unfold World.iterPos
         rw [Hit.out]
        rw [e1, e2]
        omega
    ·have hj2 : j = 2 := by omega
     subst hj2
     have hend : ∀ ty, (Instr.next (.pointer (some ⟨w.heap.size + 1 + 1 + 1, 0, none⟩)) true ty).run Tryz.prog wr = _ := fun ty => Lib.run_next_end_at wr (w.heap.size + 1 + 1 + 1) O 2 ty hit (by omega)
     have hcs := Blk.cell HS.out (i := 0) (u := .int .i64 (c + msmTo XL OL 2)) rfl
     have hcs1 := Blk.cell HS.out (i := 1) (u := .int .i64 q) rfl
     have hcr := Blk.cell HR.out (i := 0) (u := .int .i64 0) rfl
     have hcr1 := Blk.cell HR.out (i := 1) (u := .int .i64 0) rfl
     have hfr := Blk.frozen HR.out 0
     have hfr1 := Blk.frozen HR.out 1
     have HRf : Hid (Blk ((wr.setCell ⟨w.heap.size + 1, 0, none⟩ (.int .i64 (c + msmTo XL OL 2))).setCell ⟨w.heap.size + 1, 1, none⟩ (.int .i64 q)) (w.heap.size + 1) 136 [.int .i64 (c + msmTo XL OL 2), .int .i64 q]) := Lib.hid (Blk.set (Blk.set HR.out 0 (.int .i64 (c + msmTo XL OL 2))) 1 (.int .i64 q))
     have HBf := Lib.hid ((HBr.out.setCell (p := ⟨w.heap.size + 1, 0, none⟩) (by show w.heap.size ≤ w.heap.size + 1; omega) (.int .i64 (c + msmTo XL OL 2))).setCell (p := ⟨w.heap.size + 1, 1, none⟩) (by show w.heap.size ≤ w.heap.size + 1; omega) (.int .i64 q))
     clear hit HS HR HBr
     go_wp2
     have hr0 := Blk.cell HRf.out (i := 0) (u := .int .i64 (c + msmTo XL OL 2)) rfl
     have hr1 := Blk.cell HRf.out (i := 1) (u := .int .i64 q) rfl
     exact bodyPost_ret (v := sufV (c + msmTo XL OL 2) q) (by simp [results, Tryz.results98, go_sem, sufV, hr0, hr1]) rfl ⟨rfl, HBf.out⟩

end Go.Proofs.YtnlnmfkmbpihhaaGreatDoor

namespace Go.Proofs.YtnlnmfkmbpihhaaGreatDoor
open Go.RowKit

/-- A block of two cells that may be written. -/
structure Two (W : World) (g : Nat) (u v : Value) : Prop where
 c0 : W.cell? ⟨g, 0, none⟩ = some u
 c1 : W.cell? ⟨g, 1, none⟩ = some v
 f0 : W.frozen? ⟨g, 0, none⟩ = false
 f1 : W.frozen? ⟨g, 1, none⟩ = false
theorem Two.lt {W : World} {g : Nat} {u v : Value} (h : Two W g u v) : g < W.heap.size := World.block_lt_of_cell? _ _ h.c0
theorem Two.of_heap {A B : World} {g : Nat} {u v : Value} (h : Two A g u v) (hh : B.heap[g]? = A.heap[g]?) : Two B g u v :=
 ⟨(World.cell?_of_block (a := ⟨g, 0, none⟩) hh).trans h.c0, (World.cell?_of_block (a := ⟨g, 1, none⟩) hh).trans h.c1,
  by have := h.f0; simp only [World.frozen?] at this ⊢; rw [hh]; exact this, by have := h.f1; simp only [World.frozen?] at this ⊢; rw [hh]; exact this⟩
theorem Two.keep {A B : World} {g : Nat} {u v : Value} (h : Two A g u v) (hb : Below A.heap.size A B) : Two B g u v := h.of_heap (hb.block g h.lt)
theorem Two.blk {W : World} {g : Nat} {t : TypeId} {u v : Value} (h : Blk W g t [u, v]) : Two W g u v := ⟨h.cell (i := 0) rfl, h.cell (i := 1) rfl, h.frozen 0, h.frozen 1⟩
theorem Two.set {W : World} {g : Nat} {u v : Value} (h : Two W g u v) (x y : Value) : Two ((W.setCell ⟨g, 0, none⟩ x).setCell ⟨g, 1, none⟩ y) g x y := by
 have h1 : (W.setCell ⟨g, 0, none⟩ x).cell? ⟨g, 0, none⟩ = some x := World.cell?_setCell_same' _ _ _ (by rw [h.c0]; rfl)
 have h2 : (W.setCell ⟨g, 0, none⟩ x).cell? ⟨g, 1, none⟩ = some v := (World.cell?_setCell_other _ _ _ _ (by simp)).trans h.c1
 refine ⟨(World.cell?_setCell_other _ _ _ _ (by simp)).trans h1, World.cell?_setCell_same' _ _ _ (by rw [h2]; rfl), ?_, ?_⟩
 ·rw [World.frozen?_setCell, World.frozen?_setCell]; exact h.f0
 ·rw [World.frozen?_setCell, World.frozen?_setCell]; exact h.f1
/-- Only block g has turned. -/
structure Turned (A B : World) (g : Nat) : Prop where
 os : B.os = A.os
 tape : B.tape = A.tape
 output : B.output = A.output
 size : B.heap.size = A.heap.size
 other : ∀ k, k ≠ g → B.heap[k]? = A.heap[k]?
theorem Turned.below {A B w : World} {g H : Nat} (h : Turned A B g) (hb : Below H w A) (hg : H ≤ g) : Below H w B :=
 ⟨h.os.trans hb.os, h.tape.trans hb.tape, h.output.trans hb.output, by rw [h.size]; exact hb.size, fun k hk => (h.other k (by omega)).trans (hb.block k hk)⟩
theorem turned_set2 (W : World) (g : Nat) (x y : Value) : Turned W ((W.setCell ⟨g, 0, none⟩ x).setCell ⟨g, 1, none⟩ y) g :=
 ⟨rfl, rfl, rfl, by simp, fun k hk => (Below.heap_setCell _ ⟨g, 1, none⟩ _ _ hk).trans (Below.heap_setCell _ ⟨g, 0, none⟩ _ _ hk)⟩

theorem turned_set1 (W : World) (g j : Nat) (y : Value) : Turned W (W.setCell ⟨g, j, none⟩ y) g :=
 ⟨rfl, rfl, rfl, by simp, fun k hk => Below.heap_setCell _ ⟨g, j, none⟩ _ _ hk⟩
theorem turned_refl (W : World) (g : Nat) : Turned W W g := ⟨rfl, rfl, rfl, rfl, fun _ _ => rfl⟩
theorem Two.set1 {W : World} {g : Nat} {u v : Value} (h : Two W g u v) (y : Value) : Two (W.setCell ⟨g, 1, none⟩ y) g u y := by
 refine ⟨(World.cell?_setCell_other _ _ _ _ (by simp)).trans h.c0, World.cell?_setCell_same' _ _ _ (by rw [h.c1]; rfl), ?_, ?_⟩
 ·rw [World.frozen?_setCell]; exact h.f0
 ·rw [World.frozen?_setCell]; exact h.f1

/-- A block of eight cells that is read. -/
abbrev Box8 (W : World) (H : Nat) (c0 c1 c2 c3 c4 c5 c6 c7 : Value) : Prop := W.cell? ⟨H, 0, none⟩ = some c0 ∧ W.cell? ⟨H, 1, none⟩ = some c1 ∧ W.cell? ⟨H, 2, none⟩ = some c2 ∧ W.cell? ⟨H, 3, none⟩ = some c3 ∧ W.cell? ⟨H, 4, none⟩ = some c4 ∧ W.cell? ⟨H, 5, none⟩ = some c5 ∧ W.cell? ⟨H, 6, none⟩ = some c6 ∧ W.cell? ⟨H, 7, none⟩ = some c7
theorem Box8.keep {A B : World} {H : Nat} {c0 c1 c2 c3 c4 c5 c6 c7 : Value} (h : Box8 A H c0 c1 c2 c3 c4 c5 c6 c7) (hb : Below A.heap.size A B) : Box8 B H c0 c1 c2 c3 c4 c5 c6 c7 := by
 obtain ⟨h0, h1, h2, h3, h4, h5, h6, h7⟩ := h
 exact ⟨cell_below hb h0, cell_below hb h1, cell_below hb h2, cell_below hb h3, cell_below hb h4, cell_below hb h5, cell_below hb h6, cell_below hb h7⟩
theorem Box8.al {A : World} {H : Nat} {c0 c1 c2 c3 c4 c5 c6 c7 : Value} (h : Box8 A H c0 c1 c2 c3 c4 c5 c6 c7) (o : Obj) : Box8 (A.alloc o) H c0 c1 c2 c3 c4 c5 c6 c7 := h.keep ((Below.refl _ _).alloc (Nat.le_refl _) _)
theorem Box8.drw {A : World} {H : Nat} {c0 c1 c2 c3 c4 c5 c6 c7 : Value} (h : Box8 A H c0 c1 c2 c3 c4 c5 c6 c7) : Box8 A.drew H c0 c1 c2 c3 c4 c5 c6 c7 := h
theorem Box8.turned {A B : World} {H g : Nat} {c0 c1 c2 c3 c4 c5 c6 c7 : Value} (h : Box8 A H c0 c1 c2 c3 c4 c5 c6 c7) (t : Turned A B g) (hne : H ≠ g) : Box8 B H c0 c1 c2 c3 c4 c5 c6 c7 := by
 have hh := t.other H hne
 obtain ⟨h0, h1, h2, h3, h4, h5, h6, h7⟩ := h
 have hk : ∀ j u, A.cell? ⟨H, j, none⟩ = some u → B.cell? ⟨H, j, none⟩ = some u := fun j u hu => (World.cell?_of_block (a := ⟨H, j, none⟩) hh).trans hu
 exact ⟨hk _ _ h0, hk _ _ h1, hk _ _ h2, hk _ _ h3, hk _ _ h4, hk _ _ h5, hk _ _ h6, hk _ _ h7⟩

theorem Box8.set {A : World} {H : Nat} {c0 c1 c2 c3 c4 c5 c6 c7 : Value} (h : Box8 A H c0 c1 c2 c3 c4 c5 c6 c7) {p : Addr} (hp : p.block ≠ H) (v : Value) : Box8 (A.setCell p v) H c0 c1 c2 c3 c4 c5 c6 c7 := by
 obtain ⟨h0, h1, h2, h3, h4, h5, h6, h7⟩ := h
 have hk : ∀ j u, A.cell? ⟨H, j, none⟩ = some u → (A.setCell p v).cell? ⟨H, j, none⟩ = some u := fun j u hu => (World.cell?_setCell_other A p ⟨H, j, none⟩ v (fun e => hp (by rw [e]))).trans hu
 exact ⟨hk _ _ h0, hk _ _ h1, hk _ _ h2, hk _ _ h3, hk _ _ h4, hk _ _ h5, hk _ _ h6, hk _ _ h7⟩
section
variable {ops : Array Oper} {o : Oper} {a : Act} {K : Act → World → Prop} {Q : Exit → Act → World → Prop} {E : Prop}
theorem step_alloc2 {W : World} (d : Tmp) (_hd : o.dst = some d) (hw : Region.wanted o (yielded ops a.tmps) = true) (ho : o.op = .alloc 136)
  (h : ∀ g W', W.heap.size ≤ g → Two W' g (.int .i64 0) (.int .i64 0) → Below W.heap.size W W' → K (a.put (some d) (.pointer (some ⟨g, 0, none⟩))) W') :
  if Region.wanted o (yielded ops a.tmps) = true then Oper.wp Tryz.prog o a W K Q else E := by
 rw [if_pos hw]
 rw [← _hd] at h
 have hK := h _ _ (Nat.le_refl _) (Two.blk (Blk.new W 136 [.int .i64 0, .int .i64 0])) ((Below.refl _ _).alloc (Nat.le_refl _) _)
 clear _hd
 unfold Oper.wp execOp
 simp only [ho]
 go_simp
 exact hK
theorem step_store2 {W : World} {g : Nat} {u v x y : Value} {kx ky : IntKind} {nx ny : Int} (hw : Region.wanted o (yielded ops a.tmps) = true) (p s : Operand) (ho : o.op = .store 136 p s)
  (hp : a.eval p = .pointer (some ⟨g, 0, none⟩)) (hs : a.eval s = .agg #[x, y]) (hx : x = .int kx nx) (hy : y = .int ky ny) (ht : Two W g u v)
  (h : ∀ W', Two W' g x y → Turned W W' g → K (a.put o.dst undef) W') :
  if Region.wanted o (yielded ops a.tmps) = true then Oper.wp Tryz.prog o a W K Q else E := by
 rw [if_pos hw]
 subst hx hy
 have hK := h _ (ht.set _ _) (turned_set2 W g _ _)
 have h0 := ht.c0
 have h1 := ht.c1
 have f0 := ht.f0
 have f1 := ht.f1
 unfold Oper.wp execOp
 simp only [ho, hp, hs]
 go_simp
 exact hK
end

/-! ### A stage in memory -/
def row8 (e q : Nat → Int) : List Value := [.int .i64 (e 0), .int .i64 (q 0), .int .i64 (e 1), .int .i64 (q 1), .int .i64 (e 2), .int .i64 (q 2), .int .i64 (e 3), .int .i64 (q 3)]
/-- Block G holds a stage of which the first k costs are bb's. -/
def OutB (W : World) (G k : Nat) (bb : Nat → Int) : Prop := ∃ e q : Nat → Int, Blk W G 139 (row8 e q) ∧ ∀ j, j < k → e j = bb j
theorem OutB.lt {W : World} {G k : Nat} {bb : Nat → Int} (h : OutB W G k bb) : G < W.heap.size := by
 obtain ⟨e, q, h, _⟩ := h
 exact h.lt
theorem OutB.heap {A B : World} {G k : Nat} {bb : Nat → Int} (h : OutB A G k bb) (hh : B.heap[G]? = A.heap[G]?) : OutB B G k bb := by
 obtain ⟨e, q, h, he⟩ := h
 exact ⟨e, q, h.of_heap hh, he⟩
theorem OutB.kept {A B : World} {G k : Nat} {bb : Nat → Int} (h : OutB A G k bb) (hb : Below A.heap.size A B) : OutB B G k bb := h.heap (hb.block G h.lt)
theorem OutB.far {A : World} {G k : Nat} {bb : Nat → Int} (h : OutB A G k bb) {p : Addr} (hp : G ≠ p.block) (u : Value) : OutB (A.setCell p u) G k bb := by
 obtain ⟨e, q, h, he⟩ := h
 exact ⟨e, q, h.far hp u, he⟩
theorem OutB.there {W : World} {G k : Nat} {bb : Nat → Int} (h : OutB W G k bb) (j : Nat) (hj : j < 8) : (∃ u, W.cell? ⟨G, j, none⟩ = some u) ∧ W.frozen? ⟨G, j, none⟩ = false := by
 obtain ⟨e, q, h, he⟩ := h
 refine ⟨?_, h.frozen j⟩
 rcases (by omega : j = 0 ∨ j = 1 ∨ j = 2 ∨ j = 3 ∨ j = 4 ∨ j = 5 ∨ j = 6 ∨ j = 7) with rfl | rfl | rfl | rfl | rfl | rfl | rfl | rfl <;> exact ⟨_, h.cell rfl⟩
theorem OutB.new (W : World) (bb : Nat → Int) : OutB (W.alloc (.cells #[.int .i64 0, .int .i64 0, .int .i64 0, .int .i64 0, .int .i64 0, .int .i64 0, .int .i64 0, .int .i64 0] 139)) W.heap.size 0 bb :=
 ⟨fun _ => 0, fun _ => 0, Blk.new W 139 _, fun j hj => absurd hj (by omega)⟩
theorem OutB.step {W : World} {G k : Nat} {bb : Nat → Int} (h : OutB W G k bb) (hk : k < 4) (X Y : Int) (hX : X = bb k) :
  OutB ((W.setCell ⟨G, k * 2, none⟩ (.int .i64 X)).setCell ⟨G, k * 2 + 1, none⟩ (.int .i64 Y)) G (k + 1) bb := by
 obtain ⟨e, q, h, he⟩ := h
 refine ⟨fun j => if j = k then X else e j, fun j => if j = k then Y else q j, ?_, fun j hj => ?_⟩
 ·have h2 := (h.set (k * 2) (.int .i64 X)).set (k * 2 + 1) (.int .i64 Y)
  have hl : (((row8 e q).set (k * 2) (Value.int .i64 X)).set (k * 2 + 1) (Value.int .i64 Y)) = row8 (fun j => if j = k then X else e j) (fun j => if j = k then Y else q j) := by
   rcases (by omega : k = 0 ∨ k = 1 ∨ k = 2 ∨ k = 3) with rfl | rfl | rfl | rfl <;> rfl
  rw [hl] at h2
  exact h2
 ·show (if j = k then X else e j) = bb j
  split
  ·next h => rw [h, hX]
  ·exact he j (by omega)
/-- A stage written over block G. -/
def set8 (W : World) (G : Nat) (e q : Nat → Int) : World :=
 (((((((W.setCell ⟨G, 0, none⟩ (.int .i64 (e 0))).setCell ⟨G, 1, none⟩ (.int .i64 (q 0))).setCell ⟨G, 2, none⟩ (.int .i64 (e 1))).setCell ⟨G, 3, none⟩ (.int .i64 (q 1))).setCell ⟨G, 4, none⟩ (.int .i64 (e 2))).setCell ⟨G, 5, none⟩ (.int .i64 (q 2))).setCell ⟨G, 6, none⟩ (.int .i64 (e 3))).setCell ⟨G, 7, none⟩ (.int .i64 (q 3))
theorem set8_blk {W : World} {G : Nat} {e' q' : Nat → Int} (e q : Nat → Int) (h : Blk W G 139 (row8 e' q')) : Blk (set8 W G e q) G 139 (row8 e q) :=
 (((((((h.set 0 (.int .i64 (e 0))).set 1 (.int .i64 (q 0))).set 2 (.int .i64 (e 1))).set 3 (.int .i64 (q 1))).set 4 (.int .i64 (e 2))).set 5 (.int .i64 (q 2))).set 6 (.int .i64 (e 3))).set 7 (.int .i64 (q 3))
theorem set8_below {w W : World} {H G : Nat} (e q : Nat → Int) (h : Below H w W) (hG : H ≤ G) : Below H w (set8 W G e q) :=
 (((((((h.setCell (p := ⟨G, 0, none⟩) hG _).setCell (p := ⟨G, 1, none⟩) hG _).setCell (p := ⟨G, 2, none⟩) hG _).setCell (p := ⟨G, 3, none⟩) hG _).setCell (p := ⟨G, 4, none⟩) hG _).setCell (p := ⟨G, 5, none⟩) hG _).setCell (p := ⟨G, 6, none⟩) hG _).setCell (p := ⟨G, 7, none⟩) hG _

end Go.Proofs.YtnlnmfkmbpihhaaGreatDoor
