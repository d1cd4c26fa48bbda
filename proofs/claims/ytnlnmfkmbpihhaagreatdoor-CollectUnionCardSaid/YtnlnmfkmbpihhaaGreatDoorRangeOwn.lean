/-
 'for x := range seq { body }' where the body always goes on to the next round, what is handed to the body lies in memory that the iterator makes as it goes, and the iterator may write blocks of its own (X) that lay ahead of the loop.
 WALKS: the program's gf256: binary (an iterator), power, Inv, Div, reduce, Exp.
 WALKS: the program's gf256: Inv, Div, reduce, Exp.
 WALKS: the reference's field: steleref05.Mul, Inv, Exp; steleref07.Times, Power.
 WALKS: the reference's field, on: steleref07.Times, Power; steleref05.Inv, Exp.
 'for x := range seq { body }' where the body always goes on to the next round, may write rows of cells that it made as it went (a builder's), and the iterator moves objects of its own that are no cells (a string's iterator).
 'for x := range seq { body }' as in RangeStr, where the loop's variable is laid in memory of its own at each round.
-/
import Derived.Test.YtnlnmfkmbpihhaaGreatDoorGfA
import Derived.RangeFuncNested
import Derived.RangeFuncBound
import Derived.RangeFuncCalls
import Derived.RangeFuncLeaves
import Derived.Shelf.Abstract
import Derived.Shelf.RegionOpen
import Derived.OwnWalkIn
import Derived.TacticsInMore
import Derived.LoopNIn
import Derived.LoopIn
import Derived.Lib.OthersKept
namespace Go.Proofs.YtnlnmfkmbpihhaaGreatDoor.rangeOwn
open Go.RowKit

/-- From A to B: below n nothing has turned, and every row of cells lies as it lay. -/
structure Aside (X : Nat → Prop) (n : Nat) (A B : World) : Prop where
 os : B.os = A.os
 tape : B.tape = A.tape
 output : B.output = A.output
 size : A.heap.size ≤ B.heap.size
 low : ∀ k, k < n → ¬ X k → B.heap[k]? = A.heap[k]?
 cells : ∀ (k : Nat) (o : Obj), ¬ X k → A.heap[k]? = some o → o.isCells = true → B.heap[k]? = some o

theorem Aside.of_below {X : Nat → Prop} {n : Nat} {A B : World} (h : Below A.heap.size A B) (hn : n ≤ A.heap.size) : Aside X n A B :=
 ⟨h.os, h.tape, h.output, h.size, fun k hk _ => h.block k (by omega), fun k o _ hk _ => (h.block k (Array.getElem?_eq_some_iff.1 hk).1).trans hk⟩
theorem Aside.putObj {X : Nat → Prop} {n : Nat} {A : World} {l : Nat} {o : Obj} (o' : Obj) (hn : n ≤ l) (hl : A.heap[l]? = some o) (ho : o.isCells = false) : Aside X n A (A.putObj l o') :=
 ⟨rfl, rfl, rfl, by simp, fun k hk _ => World.putObj_heap_other (by omega), fun k o2 _ hk hc => (World.putObj_heap_other (fun e => by subst e; rw [hl] at hk; cases hk; rw [ho] at hc; cases hc)).trans hk⟩
theorem Aside.trans {X : Nat → Prop} {n : Nat} {A B C : World} (h : Aside X n A B) (k : Aside X n B C) : Aside X n A C :=
 ⟨k.os.trans h.os, k.tape.trans h.tape, k.output.trans h.output, Nat.le_trans h.size k.size, fun i hi hx => (k.low i hi hx).trans (h.low i hi hx), fun i o hx ho hc => k.cells i o hx (h.cells i o hx ho hc) hc⟩
theorem Aside.mono {X : Nat → Prop} {n n' : Nat} {A B : World} (h : Aside X n A B) (hn : n' ≤ n) : Aside X n' A B :=
 ⟨h.os, h.tape, h.output, h.size, fun k hk hx => h.low k (by omega) hx, h.cells⟩
/-- A store into a block of the iterator's own. -/
theorem Aside.setX {X : Nat → Prop} {n : Nat} {A : World} {p : Addr} (hp : X p.block) (u : Value) : Aside X n A (A.setCell p u) :=
 ⟨rfl, rfl, rfl, by simp, fun k _ hx => Below.heap_setCell _ _ _ _ (fun e => hx (by rw [e]; exact hp)), fun k o hx ho _ => (Below.heap_setCell _ _ _ _ (fun e => hx (by rw [e]; exact hp))).trans ho⟩
theorem Aside.cell {X : Nat → Prop} {n : Nat} {A B : World} (h : Aside X n A B) {p : Addr} {u : Value} (hx : ¬ X p.block) (hc : A.cell? p = some u) : B.cell? p = some u := by
 obtain ⟨o, ho, hoc⟩ := cells_of_cell hc
 exact (World.cell?_of_block ((h.cells _ _ hx ho hoc).trans ho.symm)).trans hc

/-- The blocks of S lie as they lay. -/
def KeepsOn (S : Nat → Prop) (A B : World) : Prop := A.heap.size ≤ B.heap.size ∧ ∀ k, S k → k < A.heap.size → B.heap[k]? = A.heap[k]?
theorem KeepsOn.trans {S : Nat → Prop} {A B C : World} (h : KeepsOn S A B) (k : KeepsOn S B C) : KeepsOn S A C :=
 ⟨Nat.le_trans h.1 k.1, fun i hs hi => (k.2 i hs (Nat.lt_of_lt_of_le hi h.1)).trans (h.2 i hs hi)⟩
theorem KeepsOn.refl {S : Nat → Prop} (A : World) : KeepsOn S A A := ⟨Nat.le_refl _, fun _ _ _ => rfl⟩

/-- THE ITERATOR's CONTRACT: it hands all of xs, one after the other, to whatever body goes on each time and keeps the blocks 'old' and those from the iterator's beginning on. -/
def IterAll {α : Type} (P : Program) (g : Nat) (lb : Array Value) (Rd : α → Array Value → World → Prop) (old X : Nat → Prop) (xs : List α) (W0 : World) : Prop :=
 ∀ (l : Nat) (J : List α → World → Prop) (W : World), Below W0.heap.size W0 W →
  (∀ s A B, J s A → Aside X A.heap.size A B → J s B) →
  (∀ pre x args W1, J pre W1 → Rd x args W1 → (pre ++ [x]) <+: xs → YieldAt Fence.wide 0 P l args W1 fun e W' => e = .returned (.bool true) ∧ J (pre ++ [x]) W' ∧ KeepsOn (fun k => old k ∨ W.heap.size ≤ k) W1 W') →
  J [] W →
  CallsIn Fence.wide 0 P g (#[.func (.yield l) #[] #[]] ++ lb) W fun e W' => (∃ v, e = .returned v) ∧ J xs W'

/-- The body goes on. -/
def goesOn {α : Type} (S : Nat → Prop) (I : List α → World → Prop) (xs : List α) (W : World) : Exit → Act → World → Prop
 | .normal, _, W' => KeepsOn S W W' ∧ I xs W'
 | _, _, _ => False

theorem wpIn_rangeFunc_all {α : Type} {P : Program} {g : Operand} {ps : Array Tmp} {assign body : Code} {Q : Exit → Act → World → Prop} {a : Act} {w : World}
  {gf : Nat} {lb : Array Value} (hg : a.eval g = .func (.func gf) #[] lb) (eg : ∀ args w, (callFunc gf args).run P w = .ok (.enter gf args) w)
  {Rd : α → Array Value → World → Prop} {old X : Nat → Prop} {xs : List α} (hseq : IterAll P gf lb Rd old X xs w) (hold : ∀ k, old k → k < w.heap.size) (hX : ∀ k, X k → k < w.heap.size)
  (hps : ∀ x args W, Rd x args W → args.size = ps.size) (hRd : ∀ x args A B, Rd x args A → Aside X w.heap.size A B → Rd x args B)
  (I : List α → World → Prop) (hI : ∀ s A B, I s A → w.heap.size ≤ A.heap.size → Aside X w.heap.size A B → I s B) (h0 : I [] w) (a₁ : Array Value → Act)
  (hassign : ∀ (l : Nat) (x : α) (args : Array Value) (W : World) (K : Act → World → Prop), Rd x args W → K (a₁ args) W →
   assign.wpIn (Fence.wide.inRound l) 0 P (Exit.then K (fun _ _ _ => False)) { tmps := (ps.zip args).foldl (fun t (p, v) => t.setIfInBounds p v) a.tmps, defers := [] } W)
  (hbody : ∀ (l : Nat) (pre : List α) (x : α) (args : Array Value) (W : World), w.heap.size + 2 ≤ W.heap.size → I pre W → Rd x args W → (pre ++ [x]) <+: xs →
   body.wpIn (Fence.wide.inRound l) 0 P (goesOn (fun k => old k ∨ w.heap.size ≤ k) I (pre ++ [x]) W) (a₁ args) W)
  (hdone : ∀ (D : Nat) (W : World), w.heap.size ≤ D → I xs W → W.heap[D]? = some (.deferred (some [])) → Q .normal { a with defers := { target := .collected D, args := #[] } :: a.defers } W) :
  (Code.rangeFunc g ps assign body).wpIn Fence.wide 0 P Q a w := by
 refine wpIn_rangeFunc ?_
 intro fn _
 obtain ⟨rec, hrec⟩ : ∃ rec : LoopState → Option Code → Loop, rec = fun st pe => { state := st, pending := pe, fn, tmps := a.tmps, params := ps, assign, body, defers := w.heap.size } := ⟨_, rfl⟩
 obtain ⟨W1, hW1⟩ : ∃ W1, (w.alloc (.deferred (some []))).alloc (.loop (rec .ready none)) = W1 := ⟨_, rfl⟩
 have hs1 : W1.heap.size = w.heap.size + 2 := by rw [← hW1]; simp
 have hL1 : W1.heap[w.heap.size + 1]? = some (.loop (rec .ready none)) := by
  rw [← hW1]; have := World.alloc_heap_new (w.alloc (.deferred (some []))) (.loop (rec .ready none)); rwa [World.size_alloc] at this
 have hK1 : W1.heap[w.heap.size]? = some (.deferred (some [])) := by
  rw [← hW1]; exact (Below.heap_alloc _ _ _ (by simp)).trans (World.alloc_heap_new w _)
 have hb1 : Below w.heap.size w W1 := by rw [← hW1]; exact ((Below.refl _ w).alloc (Nat.le_refl _) _).alloc (by simp) _
 have hI1 : I [] W1 := hI _ _ _ h0 (Nat.le_refl _) (Aside.of_below hb1 (Nat.le_refl _))
 refine ⟨w.heap.size + 1, [{ target := .collected w.heap.size, args := #[] }], W1, { target := .fn (.func gf) lb, args := #[.func (.yield (w.heap.size + 1)) #[] #[]] }, W1, gf,
  #[.func (.yield (w.heap.size + 1)) #[] #[]] ++ lb, W1, ?_, ?_, fun _ _ => trivial, ?_, (fun h => by cases h), ?_⟩
 ·rw [← hW1, hrec]; exact run_enterLoop_outer _ _ _ _ _
 ·simp only [resolve, hg]
  simp [go_sem]
 ·simp [invoke, go_sem, eg]
 ·refine (hseq (w.heap.size + 1)
   (fun pre W => w.heap.size + 2 ≤ W.heap.size ∧ I pre W ∧ W.heap[w.heap.size + 1]? = some (.loop (rec .ready none)) ∧ W.heap[w.heap.size]? = some (.deferred (some [])))
   W1 hb1 (fun s A B hs hAB => ⟨Nat.le_trans hs.1 hAB.size, hI _ _ _ hs.2.1 (by have := hs.1; omega) (hAB.mono (by have := hs.1; omega)), (hAB.low _ (by have := hs.1; omega) (fun h => by have := hX _ h; omega)).trans hs.2.2.1, (hAB.low _ (by have := hs.1; omega) (fun h => by have := hX _ h; omega)).trans hs.2.2.2⟩)
   ?_ ⟨by omega, hI1, hL1, hK1⟩).mono ?_
  ·rintro pre x args W ⟨hsz, hi, hl, hk⟩ hrd hpre
   have hy := run_yield (P := P) (args := args) hl (by rw [hrec]; exact hps x args W hrd)
   rw [hrec] at hy
   refine ⟨fn, _, assign, body, hy, roundIn_of_wpIn trivial (hassign _ x args W _ hrd ⟨_, run_beginRound hl (by rw [hrec]), ?_⟩)⟩
   obtain ⟨W2, hW2⟩ : ∃ W2, W.putObj (w.heap.size + 1) (.loop { rec .ready none with state := .busy }) = W2 := ⟨_, rfl⟩
   have hA2 : Aside X w.heap.size W W2 := by rw [← hW2]; exact Aside.putObj _ (by omega) hl rfl
   have hl2 : W2.heap[w.heap.size + 1]? = some (.loop { rec .ready none with state := .busy }) := by rw [← hW2]; exact World.putObj_heap_same (by omega)
   have hk2 : W2.heap[w.heap.size]? = some (.deferred (some [])) := by rw [← hW2]; exact (World.putObj_heap_other (by omega)).trans hk
   have hs2 : W2.heap.size = W.heap.size := by rw [← hW2]; simp
   rw [hW2]
   refine wpIn_mono (hbody _ pre x args W2 (by omega) (hI _ _ _ hi (by omega) hA2) (hRd _ _ _ _ hrd hA2) hpre) ?_
   rintro e a3 W3 hp
   cases e with
   | normal =>
    obtain ⟨hk3, hi3⟩ := hp
    have hl3 : W3.heap[w.heap.size + 1]? = some (.loop { rec .ready none with state := .busy }) := (hk3.2 _ (.inr (by omega)) (by omega)).trans hl2
    have hd3 : W3.heap[w.heap.size]? = some (.deferred (some [])) := (hk3.2 _ (.inr (Nat.le_refl _)) (by omega)).trans hk2
    have hs3 := hk3.1
    have hr := run_endRound (P := P) none hl3
    rw [hrec] at hr
    have hA4 : Aside X w.heap.size W3 (W3.putObj (w.heap.size + 1) (.loop (rec .ready none))) := Aside.putObj _ (by omega) hl3 rfl
    rw [hrec] at hA4
    refine ⟨_, _, hr, rfl, ⟨by simp; omega, hI _ _ _ hi3 (by omega) hA4, ?_, ?_⟩, by simp; omega, fun k hkS hkl => ?_⟩
    ·rw [hrec]; exact World.putObj_heap_same (by omega)
    ·exact (World.putObj_heap_other (by omega)).trans hd3
    ·have hkne : k ≠ w.heap.size + 1 := by
      rcases hkS with h | h
      ·have := hold k h; omega
      ·omega
     refine (World.putObj_heap_other hkne).trans ((hk3.2 k ?_ (by omega)).trans ?_)
     ·rcases hkS with h | h
      ·exact .inl h
      ·exact .inr (by omega)
     ·rw [← hW2]; exact World.putObj_heap_other hkne
   | _ => exact hp.elim
  ·rintro e W2 ⟨⟨v, rfl⟩, hsz, hi, hl, hk⟩
   refine ⟨none, _, by have := run_endLoop (P := P) hl (by rw [hrec]; simp); rw [hrec] at this; exact this, hdone _ _ (Nat.le_refl _) (hI _ _ _ hi (by omega) (Aside.putObj _ (by omega) hl rfl)) ((World.putObj_heap_other (by omega)).trans hk)⟩

end Go.Proofs.YtnlnmfkmbpihhaaGreatDoor.rangeOwn

namespace Go.Proofs.YtnlnmfkmbpihhaaGreatDoor
open Go.RowKit Go.Shelf
attribute [local go_sem] Oper.semAt_some

def bitsOf : Nat → Nat → List Bool
 | 0, _ => []
 | k + 1, n => if n = 0 then [] else (n % 2 == 1) :: bitsOf k (n / 2)
def RdBool (x : Bool) (args : Array Value) (_ : World) : Prop := args = #[.bool x]

theorem i64_and1 {a : Nat} (ha : a < 9223372036854775808) : bits .and .i64 (a : Int) 1 = ((a % 2 : Nat) : Int) := by
 show IntKind.i64.wrap ((BitVec.ofInt 64 (a : Int) &&& BitVec.ofInt 64 1).toNat : Int) = _
 have e : (BitVec.ofInt 64 (a : Int) &&& BitVec.ofInt 64 1).toNat = a % 2 := by
  rw [BitVec.toNat_and, BitVec.ofInt_natCast, BitVec.toNat_ofNat, Nat.mod_eq_of_lt (by omega)]
  exact Nat.and_one_is_mod a
 rw [e]
 exact IntWalk.i64_in _ (by omega)
theorem Boxed.keeps' {A B : World} {k : Nat} {t : TypeId} {v : Value} {S : Nat → Prop} (h : Boxed A k t v) (hk : rangeOwn.KeepsOn S A B) (hS : S k) : Boxed B k t v := (hk.2 k hS h.lt).trans h

set_option maxHeartbeats 1000000 in
theorem binary_all (n nb : Nat) (W0 : World) (hn : n < 256) (hb0 : Boxed W0 nb 3 (.int .i64 n)) :
  rangeOwn.IterAll Tryz.prog 247 #[.pointer (some ⟨nb, 0, none⟩)] RdBool (fun k => k = nb) (fun k => k = nb) (bitsOf 8 n) W0 := by
 intro l J W hb hJ hY h0
 have hbx : Boxed W nb 3 (.int .i64 n) := (hb.block nb hb0.lt).trans hb0
 have Hbx := Lib.hid hbx
 have HJ := Lib.hid hJ
 have HY := Lib.hid hY
 clear hbx hJ hY
 refine callsIn_of_wp Tryz.func247 rfl trivial ?_ rfl
 simp only [Tryz.ntmps247, List.size_toArray, List.length_cons, List.length_nil, Nat.reduceAdd, Nat.reduceSub, Array.replicate_succ, Array.replicate_zero, List.push_toArray, List.append_toArray, List.nil_append, List.cons_append]
 gi_wp2
 gi_loopw [3] (fun _ wr => ∃ (k m : Nat) (pre : List Bool), k ≤ 8 ∧ m < 2 ^ k ∧ Boxed wr nb 3 (.int .i64 m) ∧ pre ++ bitsOf k m = bitsOf 8 n ∧ J pre wr)
  (fun _ wr => (intOf ((wr.cell? ⟨nb, 0, none⟩).getD undef)).toNat)
 case atStart => exact ⟨8, n, [], Nat.le_refl _, hn, Hbx.out, rfl, h0⟩
 case round =>
  obtain ⟨k, m, pre, hk, hm, hbm, hpre, hj⟩ := hrel
  have hcm := hbm.cell
  have hm8 : m < 256 := Nat.lt_of_lt_of_le hm (Nat.pow_le_pow_right (i := k) (j := 8) (by omega) hk)
  by_cases hz : m = 0
  ·subst hz
   have e : pre = bitsOf 8 n := by
    rw [← hpre]
    cases k <;> simp [bitsOf]
   have He := Lib.hid e
   have Hj := Lib.hid hj
   clear hpre hj e
   gi_wp2
   go_end0
   exact ⟨⟨_, rfl⟩, He.out ▸ Hj.out⟩
  ·obtain ⟨k, rfl⟩ : ∃ j, k = j + 1 := by
    cases k with
    | zero => exact absurd (by simpa using hm) hz
    | succ j => exact ⟨j, rfl⟩
   have hbits : bitsOf (k + 1) m = (m % 2 == 1) :: bitsOf k (m / 2) := by rw [bitsOf, if_neg hz]
   rw [hbits] at hpre
   have hpos : (0 : Int) < m := by omega
   have hpN : 0 < m := by omega
   have hbt : (bits .and .i64 (m : Int) 1 == 1) = (m % 2 == 1) := by
    rw [i64_and1 (by omega), Bool.eq_iff_iff, beq_iff_eq, beq_iff_eq]
    omega
   obtain ⟨fn, tmps, assign, body, hy, hR⟩ := HY.out pre (m % 2 == 1) #[.bool (m % 2 == 1)] wr hj rfl ⟨bitsOf k (m / 2), by rw [← hpre]; simp⟩
   have HR := Lib.hid hR
   have Hpre := Lib.hid hpre
   have Hbm := Lib.hid hbm
   have hh : m / 2 < 2 ^ k := by rw [Nat.pow_succ] at hm; omega
   have Hh := Lib.hid hh
   clear hR hpre hbm hj hbits hh hm
   gi_wp2
   refine ⟨rfl, HR.out.mono ?_⟩
   rintro e W1 ⟨rfl, hj1, hk1⟩
   have hb1 := Boxed.keeps' Hbm.out hk1 (.inl rfl)
   have hc1 := hb1.cell
   have hf1 := hb1.frozen
   have Hb1 := Lib.hid hb1
   clear hb1
   gi_wp2
   go_roundw
   case rel =>
    refine ⟨k, m / 2, pre ++ [m % 2 == 1], by omega, Hh.out, ?_, by rw [← Hpre.out]; simp, HJ.out _ _ _ hj1 (rangeOwn.Aside.setX (X := fun k => k = nb) (p := ⟨nb, 0, none⟩) rfl _)⟩
    exact Boxed.set _ Hb1.out
   case measure =>
    rw [(Boxed.set _ Hb1.out).cell, Hbm.out.cell]
    simp [intOf]
    omega

theorem binary_any (w : World) (n : Int) :
  Calls Tryz.prog 223 #[.int .i64 n] w fun e w' => e = .returned (.func (.func 247) #[] #[.pointer (some ⟨w.heap.size, 0, none⟩)]) ∧ w.alloc (.cells #[.int .i64 n] 3) = w' := by
 go_enter Tryz.func223, Tryz.ntmps223
 go_wp2
 go_ret
 exact ⟨rfl, rfl⟩

def powStep (s : Nat × Nat) (b : Bool) : Nat × Nat := (if b then gmul s.1 s.2 else s.1, gmul s.2 s.2)
theorem powStep_all : ∀ (k p a n : Nat), ((bitsOf k n).foldl powStep (p, a)).1 = gpowL k p a n
 | 0, _, _, _ => rfl
 | k + 1, p, a, n => by
  rw [bitsOf, gpowL]
  split
  ·rfl
  ·rw [List.foldl_cons, ← powStep_all k]
   congr 2
   simp only [powStep]
   congr 1
   by_cases h : n % 2 = 1 <;> simp [h]
theorem powStep_lt (l : List Bool) : ∀ (s : Nat × Nat), s.1 < 256 → s.2 < 256 → (l.foldl powStep s).1 < 256 ∧ (l.foldl powStep s).2 < 256 := by
 induction l with
 | nil => exact fun s h1 h2 => ⟨h1, h2⟩
 | cons b l ih =>
  intro s h1 h2
  refine ih _ ?_ (gmul_lt _ h2)
  simp only [powStep]
  split
  ·exact gmul_lt _ h1
  ·exact h1
theorem keeps_set {S : Nat → Prop} {A : World} {p : Addr} (hp : ¬ S p.block) (u : Value) : rangeOwn.KeepsOn S A (A.setCell p u) :=
 ⟨by simp, fun k hk _ => Below.heap_setCell _ _ _ _ fun e => hp (by rw [← e]; exact hk)⟩
/-- Between two rounds of power's loop. -/
structure PowI (w : World) (H a : Nat) (pre : List Bool) (W : World) : Prop where
 below : Below H w W
 ba : Boxed W H 5 (.int .u8 ((pre.foldl powStep (1, a)).2 : Nat))
 bp : Boxed W (H + 1) 5 (.int .u8 ((pre.foldl powStep (1, a)).1 : Nat))

set_option maxRecDepth 100000 in
set_option maxHeartbeats 2000000 in
theorem power_any (w : World) (a n : Nat) (ha : a < 256) (hn : n < 256) : Calls Tryz.prog 165 #[.int .u8 a, .int .i64 n] w fun e w' => e = .returned (.int .u8 (gpow a n : Nat)) ∧ Below w.heap.size w w' := by
 refine (callsIn_wide (n := 0)).1 ?_
 refine callsIn_of_wp_marks Tryz.func165 rfl trivial ?_ rfl
 simp only [Tryz.ntmps165, List.size_toArray, List.length_cons, List.length_nil, Nat.reduceAdd, Nat.reduceSub, Array.replicate_succ, Array.replicate_zero, List.push_toArray, List.append_toArray, List.nil_append, List.cons_append]
 gi_wp2_with (refine ⟨trivial, rfl, ?_⟩; gi_at_call 223; refine (callsIn_wide.2 (binary_any _ _)).mono ?_; rintro e w' ⟨rfl, rfl⟩)
 obtain ⟨W0, hW0⟩ : ∃ W0, ((w.alloc (.cells #[.int .u8 a] 5)).alloc (.cells #[.int .u8 1] 5)).alloc (.cells #[.int .i64 n] 3) = W0 := ⟨_, rfl⟩
 have hsz0 : W0.heap.size = w.heap.size + 1 + 1 + 1 := by rw [← hW0]; simp
 have hb0 : Below w.heap.size w W0 := by rw [← hW0]; exact (((Below.refl _ _).alloc (Nat.le_refl _) _).alloc (by simp) _).alloc (by simp; omega) _
 have hba : Boxed W0 w.heap.size 5 (.int .u8 a) := by rw [← hW0]; exact ((Boxed.new _ _ _).alloc _).alloc _
 have hbp : Boxed W0 (w.heap.size + 1) 5 (.int .u8 1) := by
  rw [← hW0]
  have := (Boxed.new (w.alloc (.cells #[.int .u8 a] 5)) 5 (.int .u8 1)).alloc (.cells #[.int .i64 n] 3)
  simpa using this
 have hbn : Boxed W0 (w.heap.size + 1 + 1) 3 (.int .i64 n) := by
  rw [← hW0]
  have := Boxed.new ((w.alloc (.cells #[.int .u8 a] 5)).alloc (.cells #[.int .u8 1] 5)) 3 (.int .i64 n)
  simpa using this
 have hI0 : PowI w w.heap.size a [] W0 := ⟨hb0, hba, hbp⟩
 rw [hW0]
 clear hW0 hba hbp
 have hold : ∀ k, k = w.heap.size + 1 + 1 → k < W0.heap.size := fun k hk => by omega
 refine rangeOwn.wpIn_rangeFunc_all (gf := 247) (lb := #[.pointer (some ⟨w.heap.size + 1 + 1, 0, none⟩)]) rfl (enters_of Tryz.func247 (by kernel_rfl) rfl) (binary_all n (w.heap.size + 1 + 1) W0 hn hbn)
  hold hold (fun x args W hr => by rw [show args = #[.bool x] from hr]; rfl) (fun x args X Y hr _ => hr)
  (PowI w w.heap.size a) (fun s X Y hs _ ha => ?_) hI0
  (fun args => { tmps := #[.int .u8 a, .int .i64 n, .pointer (some ⟨w.heap.size, 0, none⟩), undef, .int .u8 0, .pointer (some ⟨w.heap.size + 1, 0, none⟩), args.getD 0 undef, .int .i64 n,
   .func (.func 247) #[] #[.pointer (some ⟨w.heap.size + 1 + 1, 0, none⟩)], args.getD 0 undef, undef, undef, undef, undef, undef, undef, undef, undef], defers := [] })
  ?assign ?body ?done
 ·refine ⟨⟨ha.os.trans hs.below.os, ha.tape.trans hs.below.tape, ha.output.trans hs.below.output, Nat.le_trans hs.below.size ha.size, fun k hk => (ha.low k (by omega) (by omega)).trans (hs.below.block k hk)⟩, ?_, ?_⟩
  ·exact ha.cells _ _ (by omega) hs.ba rfl
  ·exact ha.cells _ _ (by omega) hs.bp rfl
 case assign =>
  intro l x args W K hr hK
  obtain rfl : args = #[.bool x] := hr
  simp only [Array.getD, List.size_toArray, List.length_cons, List.length_nil, Nat.zero_add, Nat.lt_add_one, dite_true, List.getElem_toArray, List.getElem_cons_zero, Array.getInternal_eq_getElem] at hK
  gi_wp2
  exact hK
 case body =>
  intro l pre x args W hsz hI hr hpre
  obtain rfl : args = #[.bool x] := hr
  obtain ⟨hB, h1, h2⟩ := hI
  have hlt := powStep_lt pre (1, a) (by omega) ha
  have hst : (pre ++ [x]).foldl powStep (1, a) = powStep (pre.foldl powStep (1, a)) x := by rw [List.foldl_append]; rfl
  have Hst := Lib.hid hst
  generalize (pre.foldl powStep (1, a)) = st at *
  obtain ⟨p', a'⟩ := st
  obtain ⟨hp', ha'⟩ := hlt
  have hc1 := h1.cell
  have hc2 := h2.cell
  have hf1 := h1.frozen
  have hf2 := h2.frozen
  have H1 := Lib.hid h1
  have H2 := Lib.hid h2
  have HB := Lib.hid hB
  clear h1 h2 hB hst hpre hI0 hbn hb0 hold
  simp only [Array.getD, List.size_toArray, List.length_cons, List.length_nil, Nat.zero_add, Nat.lt_add_one, dite_true, List.getElem_toArray, List.getElem_cons_zero, Array.getInternal_eq_getElem]
  cases x with
  | false =>
   gi_wp2_with fail
   refine ⟨trivial, rfl, (CallsIn.inRound l (callsIn_wide.2 (gmul_any W a' a' ha' ha'))).mono ?_⟩
   rintro e w1 ⟨rfl, rfl⟩
   gi_wp2
   refine ⟨keeps_set (p := ⟨w.heap.size, 0, none⟩) (by show ¬ (w.heap.size = _ ∨ _ ≤ w.heap.size); omega) _, HB.out.setCell (p := ⟨w.heap.size, 0, none⟩) (Nat.le_refl _) _, ?_, ?_⟩
   ·rw [Hst.out]; exact Boxed.set _ H1.out
   ·rw [Hst.out]; exact H2.out.other (by omega) _
  | true =>
   have H1' := Lib.hid (H1.out.other (B' := w.heap.size + 1) (by omega) (.int .u8 (gmul p' a' : Nat)))
   have hc3 := H1'.out.cell
   have hf3 := H1'.out.frozen
   gi_wp2_with fail
   refine ⟨trivial, rfl, (CallsIn.inRound l (callsIn_wide.2 (gmul_any W p' a' hp' ha'))).mono ?_⟩
   rintro e w1 ⟨rfl, rfl⟩
   gi_wp2_with fail
   refine ⟨trivial, rfl, (CallsIn.inRound l (callsIn_wide.2 (gmul_any _ a' a' ha' ha'))).mono ?_⟩
   rintro e w1 ⟨rfl, rfl⟩
   gi_wp2
   refine ⟨(keeps_set (p := ⟨w.heap.size + 1, 0, none⟩) (by show ¬ (w.heap.size + 1 = _ ∨ _ ≤ w.heap.size + 1); omega) _).trans (keeps_set (p := ⟨w.heap.size, 0, none⟩) (by show ¬ (w.heap.size = _ ∨ _ ≤ w.heap.size); omega) _),
    (HB.out.setCell (p := ⟨w.heap.size + 1, 0, none⟩) (by show w.heap.size ≤ w.heap.size + 1; omega) _).setCell (p := ⟨w.heap.size, 0, none⟩) (Nat.le_refl _) _, ?_, ?_⟩
   ·rw [Hst.out]; exact Boxed.set _ H1'.out
   ·rw [Hst.out]; exact (Boxed.set _ H2.out).other (by omega) _
 case done =>
  intro D W hD hI hk
  obtain ⟨hB, h1, h2⟩ := hI
  have hc2 := h2.cell
  have hps := powStep_all 8 1 a n
  rw [hps] at hc2
  have HB := Lib.hid hB
  clear hB h1 h2 hps hI0 hbn hb0 hold
  gi_wp2
  refine ⟨by simp, .inl ⟨_, _, rfl, run_takeDeferred hk, _, results_tmp rfl _ _ _, rfl, ?_⟩⟩
  exact ⟨HB.out.os, HB.out.tape, HB.out.output, Nat.le_trans HB.out.size (by simp), fun k hk2 => (World.putObj_heap_other (by omega)).trans (HB.out.block k hk2)⟩

end Go.Proofs.YtnlnmfkmbpihhaaGreatDoor

namespace Go.Proofs.YtnlnmfkmbpihhaaGreatDoor
open Go.RowKit

def ginvR (a : Nat) : Value := if a = 0 then .tuple #[.int .u8 0, .bool false] else .tuple #[.int .u8 (ginv a : Nat), .bool true]
set_option maxHeartbeats 400000 in
theorem ginv_any (w : World) (a : Nat) (ha : a < 256) : Calls Tryz.prog 172 #[.int .u8 a] w fun e w' => e = .returned (ginvR a) ∧ Below w.heap.size w w' := by
 by_cases h : a = 0
 ·subst h
  go_enter Tryz.func172, Tryz.ntmps172
  go_wp2
  go_ret2
  exact ⟨rfl, Below.refl _ _⟩
 ·have hz : ((a : Int) == 0) = false := by simpa using h
  have H := Lib.hid (power_any w a 254 ha (by omega))
  have Hn := Lib.hid h
  clear h
  go_enter Tryz.func172, Tryz.ntmps172
  go_wp2_with fail
  refine H.out.mono ?_
  rintro e w1 ⟨rfl, hb⟩
  go_wp2
  go_ret2
  refine ⟨?_, hb⟩
  unfold ginvR
  rw [if_neg Hn.out]
  rfl
def gdivR (a b : Nat) : Value := if b = 0 then .tuple #[.int .u8 0, .bool false] else .tuple #[.int .u8 (gmul a (ginv b) : Nat), .bool true]
set_option maxHeartbeats 400000 in
theorem gdiv_any (w : World) (a b : Nat) (ha : a < 256) (hb : b < 256) : Calls Tryz.prog 107 #[.int .u8 a, .int .u8 b] w fun e w' => e = .returned (gdivR a b) ∧ Below w.heap.size w w' := by
 have H := ginv_any w b hb
 unfold ginvR at H
 by_cases h : b = 0
 ·rw [if_pos h] at H
  have Hi := Lib.hid H
  have Hz := Lib.hid h
  clear H h
  go_enter Tryz.func107, Tryz.ntmps107
  go_wp2_with fail
  refine Hi.out.mono ?_
  rintro e w1 ⟨rfl, hb1⟩
  have H2 := Lib.hid (gmul_any w1 a 0 ha (by omega))
  go_wp2_with fail
  refine H2.out.mono ?_
  rintro e w2 ⟨rfl, rfl⟩
  go_wp2
  go_ret2
  refine ⟨?_, hb1⟩
  unfold gdivR
  rw [if_pos Hz.out, gmul_zero_right]
  rfl
 ·rw [if_neg h] at H
  have Hi := Lib.hid H
  have Hz := Lib.hid h
  clear H h
  go_enter Tryz.func107, Tryz.ntmps107
  go_wp2_with fail
  refine Hi.out.mono ?_
  rintro e w1 ⟨rfl, hb1⟩
  have H2 := Lib.hid (gmul_any w1 a (ginv b) ha (ginv_lt hb))
  go_wp2_with fail
  refine H2.out.mono ?_
  rintro e w2 ⟨rfl, rfl⟩
  go_wp2
  go_ret2
  refine ⟨?_, hb1⟩
  unfold gdivR
  rw [if_neg Hz.out]
  rfl
/-- The exponent from 0 to 254. -/
def gexpN (n : Int) : Nat := (n % 255).toNat
theorem gexpN_lt (n : Int) : gexpN n < 255 := by unfold gexpN; omega
set_option maxHeartbeats 400000 in
theorem reduce_any (w : World) (n : Int) (hn : -1000000 ≤ n ∧ n ≤ 1000000) : Calls Tryz.prog 166 #[.int .i64 n] w fun e w' => e = .returned (.int .i64 (gexpN n : Nat)) ∧ w = w' := by
 obtain ⟨h1, h2⟩ := hn
 have h3 : -254 ≤ Int.tmod n 255 ∧ Int.tmod n 255 ≤ 254 := by
  by_cases h : 0 ≤ n
  ·rw [Int.tmod_eq_emod_of_nonneg h]
   omega
  ·have e : Int.tmod n 255 = -((-n) % 255) := by
    rw [← Int.tmod_eq_emod_of_nonneg (by omega), Int.neg_tmod, Int.neg_neg]
   rw [e]
   omega
 obtain ⟨h4, h5⟩ := h3
 have h6 : (Int.tmod n 255 + 255) % 255 = n % 255 := by
  have := Int.tmod_add_mul_tdiv n 255
  omega
 have h7 : Int.tmod (Int.tmod n 255 + 255) 255 = (gexpN n : Int) := by
  rw [Int.tmod_eq_emod_of_nonneg (by omega), h6]
  unfold gexpN
  omega
 have H := Lib.hid h7
 go_enter Tryz.func166, Tryz.ntmps166
 go_wp2
 go_ret
 exact ⟨rfl, rfl⟩
/-- The power of two with an exponent of either sign. -/
def gexp (n : Int) : Nat := pw (gexpN n)
set_option maxHeartbeats 400000 in
theorem gexp_any (w : World) (n : Int) (hn : -1000000 ≤ n ∧ n ≤ 1000000) : Calls Tryz.prog 103 #[.int .i64 n] w fun e w' => e = .returned (.int .u8 (gexp n : Nat)) ∧ Below w.heap.size w w' := by
 have hl := gexpN_lt n
 have H := Lib.hid (reduce_any w n hn)
 have H2 := Lib.hid (power_any w 2 (gexpN n) (by omega) (by omega))
 have He := Lib.hid (gpow_pw hl)
 go_enter Tryz.func103, Tryz.ntmps103
 go_wp2_with fail
 refine H.out.mono ?_
 rintro e w1 ⟨rfl, rfl⟩
 go_wp2_with fail
 refine H2.out.mono ?_
 rintro e w1 ⟨rfl, hb⟩
 go_wp2
 go_ret
 refine ⟨ret_num ?_, hb⟩
 rw [He.out]
 rfl

end Go.Proofs.YtnlnmfkmbpihhaaGreatDoor

namespace Go.Proofs.YtnlnmfkmbpihhaaGreatDoor
open Go.RowKit

theorem i64_xor {a b : Nat} (ha : a < 9223372036854775808) (hb : b < 9223372036854775808) : bits .xor .i64 (a : Int) (b : Int) = ((a ^^^ b : Nat) : Int) := by
 have ha' : a % 2 ^ IntKind.i64.bits = a := Nat.mod_eq_of_lt (Nat.lt_trans ha (by decide))
 have hb' : b % 2 ^ IntKind.i64.bits = b := Nat.mod_eq_of_lt (Nat.lt_trans hb (by decide))
 simp only [bits, BitVec.ofInt_natCast, BitVec.toNat_xor, BitVec.toNat_ofNat, ha', hb']
 have := Nat.xor_lt_two_pow (n := 63) ha hb
 exact IntWalk.i64_in _ (by omega)
theorem i64_nat {q : Nat} (h : q < 9223372036854775808) : IntKind.i64.wrap (q : Int) = q := IntWalk.i64_in _ (by omega)
theorem i64_bit (s k : Nat) (h : s < 9223372036854775808) : (bits .and .i64 ((s : Int) / 2 ^ k) 1 == 1) = s.testBit k := by
 have e : ((s : Int) / 2 ^ k) = ((s / 2 ^ k : Nat) : Int) := by simp
 rw [e, i64_and1 (Nat.lt_of_le_of_lt (Nat.div_le_self _ _) h), Nat.testBit_eq_decide_div_mod_eq]
 rw [Bool.eq_iff_iff, beq_iff_eq, decide_eq_true_iff]
 omega
theorem shl_lt {a k N M : Nat} (ha : a < 2 ^ N) (hk : k + N ≤ M) : a <<< k < 2 ^ M := by
 rw [Nat.shiftLeft_eq]
 calc a * 2 ^ k < 2 ^ N * 2 ^ k := Nat.mul_lt_mul_of_pos_right ha (Nat.two_pow_pos k)
  _ = 2 ^ (k + N) := by rw [Nat.pow_add, Nat.mul_comm]
  _ ≤ 2 ^ M := Nat.pow_le_pow_right (by omega) hk
theorem rmulA_lt {a : Nat} (ha : a < 256) (b : Nat) : ∀ k, k ≤ 8 → rmulA a b k < 32768
 | 0, _ => by rw [rmulA]; omega
 | k + 1, hk => by
  rw [rmulA]
  have h1 := rmulA_lt ha b k (by omega)
  split
  ·exact Nat.xor_lt_two_pow (n := 15) h1 (shl_lt (N := 8) ha (by omega))
  ·exact h1
set_option maxHeartbeats 1000000 in
theorem r5mul_any (w : World) (a b : Nat) (ha : a < 256) (hb : b < 256) : Calls Tryz.prog 206 #[.int .u8 a, .int .u8 b] w fun e w' => e = .returned (.int .u8 (gmul a b : Nat)) ∧ w = w' := by
 go_enter Tryz.func206, Tryz.ntmps206
 go_wp2
 go_loop [5, 6] (fun p i => ∃ k : Nat, k ≤ 8 ∧ i = .int .i64 k ∧ p = .int .i64 (rmulA a b k : Nat)) (fun _ i => 8 - (intOf i).toNat)
 case atStart => exact ⟨0, by omega, rfl, rfl⟩
 case round =>
  obtain ⟨k, hk, rfl, rfl⟩ := hrel
  have hrl := rmulA_lt ha b k hk
  by_cases h8 : k < 8
  ·have hkI : (k : Int) < 8 := by omega
   have hbt := i64_bit b k (by omega)
   have hsl : a <<< k < 32768 := shl_lt (N := 8) (M := 15) ha (by omega)
   have hsh : (a : Int) * 2 ^ k = ((a <<< k : Nat) : Int) := by rw [Nat.shiftLeft_eq]; simp
   have hwr : IntKind.i64.wrap ((a : Int) * 2 ^ k) = ((a <<< k : Nat) : Int) := by rw [hsh]; exact i64_nat (by omega)
   have hx := i64_xor (a := rmulA a b k) (b := a <<< k) (by omega) (by omega)
   cases htb : b.testBit k with
   | true =>
    rw [htb] at hbt
    have Htb := Lib.hid htb
    clear htb hsh
    go_wp2
    go_round
    case rel =>
     refine ⟨k + 1, by omega, by go_num, ?_⟩
     rw [rmulA, if_pos Htb.out]
     exact congrArg (Value.int .i64) hx
    case measure => simp [intOf]; omega
   | false =>
    rw [htb] at hbt
    have Htb := Lib.hid htb
    clear htb hsh hwr hx hsl
    go_wp2
    go_round
    case rel =>
     refine ⟨k + 1, by omega, by go_num, ?_⟩
     rw [rmulA, if_neg (by rw [Htb.out]; decide)]
    case measure => simp [intOf]; omega
  ·have hk8 : k = 8 := by omega
   subst hk8
   go_wp2
   go_loop [5, 7] (fun p i => ∃ f q : Nat, f ≤ 7 ∧ i = .int .i64 (f + 7 : Nat) ∧ p = .int .i64 q ∧ q < 32768 ∧ rmulB f q = rmulB 7 (rmulA a b 8)) (fun _ i => (intOf i).toNat)
   case atStart => exact ⟨7, _, by omega, rfl, rfl, hrl, rfl⟩
   case round =>
    obtain ⟨f, q, hf, rfl, rfl, hq, hrb⟩ := hrel
    have Hrb := Lib.hid hrb
    clear hrb
    cases f with
    | zero =>
     go_wp2
     go_ret
     refine ⟨ret_num ?_, rfl⟩
     rw [← rmul_eq ha hb]
     unfold rmul
     rw [← Hrb.out]
     rfl
    | succ f =>
     have hbt := i64_bit q (f + 8) (by omega)
     have hsl : 285 <<< f < 32768 := shl_lt (N := 9) (M := 15) (by decide) (by omega)
     have hsh : (285 : Int) * (2 : Int) ^ f = ((285 <<< f : Nat) : Int) := by rw [Nat.shiftLeft_eq]; simp
     have hwr : IntKind.i64.wrap ((285 : Int) * (2 : Int) ^ f) = ((285 <<< f : Nat) : Int) := by rw [hsh]; exact i64_nat (by omega)
     have hw64 : RowKit.wrap64 ((285 : Int) * (2 : Int) ^ f) = ((285 <<< f : Nat) : Int) := (IntWalk.i64_left _).symm.trans hwr
     have hx := i64_xor (a := q) (b := 285 <<< f) (by omega) (by omega)
     have hxl : q ^^^ 285 <<< f < 32768 := Nat.xor_lt_two_pow (n := 15) hq hsl
     cases htb : q.testBit (f + 8) with
     | true =>
      rw [htb] at hbt
      have Htb := Lib.hid htb
      clear htb hsh
      go_wp2
      go_round
      case rel =>
       refine ⟨f, q ^^^ 285 <<< f, by omega, by go_num, congrArg (Value.int .i64) hx, hxl, ?_⟩
       rw [← Hrb.out, rmulB, if_pos Htb.out]
      case measure => simp [intOf]; omega
     | false =>
      rw [htb] at hbt
      have Htb := Lib.hid htb
      clear htb hsh hwr hw64 hx hxl hsl
      go_wp2
      go_round
      case rel =>
       refine ⟨f, q, by omega, by go_num, rfl, hq, ?_⟩
       rw [← Hrb.out, rmulB, if_neg (by rw [Htb.out]; decide)]
      case measure => simp [intOf]; omega

end Go.Proofs.YtnlnmfkmbpihhaaGreatDoor

namespace Go.Proofs.YtnlnmfkmbpihhaaGreatDoor
open Go.RowKit

theorem u8_bit (s k : Nat) (h : s < 256) : (bits .and .u8 ((s : Int) / 2 ^ k) 1 == 1) = s.testBit k := by
 have e : ((s : Int) / 2 ^ k) = ((s / 2 ^ k : Nat) : Int) := by simp
 rw [e, u8_and1 (Nat.lt_of_le_of_lt (Nat.div_le_self _ _) h), Nat.testBit_eq_decide_div_mod_eq]
 rw [Bool.eq_iff_iff, beq_iff_eq, decide_eq_true_iff]
 omega
set_option maxHeartbeats 1000000 in
theorem r7times_any (w : World) (a b : Nat) (ha : a < 256) (hb : b < 256) : Calls Tryz.prog 134 #[.int .u8 a, .int .u8 b] w fun e w' => e = .returned (.int .u8 (gmul a b : Nat)) ∧ w = w' := by
 go_enter Tryz.func134, Tryz.ntmps134
 go_wp2
 go_loop [6, 7] (fun p i => ∃ k : Nat, k ≤ 8 ∧ i = .int .i64 k ∧ p = .int .i64 (rmulA a b k : Nat)) (fun _ i => 8 - (intOf i).toNat)
 case atStart => exact ⟨0, by omega, rfl, rfl⟩
 case round =>
  obtain ⟨k, hk, rfl, rfl⟩ := hrel
  have hrl := rmulA_lt ha b k hk
  by_cases h8 : k < 8
  ·have hkI : (k : Int) < 8 := by omega
   have hbt := u8_bit b k (by omega)
   have hsl : a <<< k < 32768 := shl_lt (N := 8) (M := 15) ha (by omega)
   have hsh : (a : Int) * 2 ^ k = ((a <<< k : Nat) : Int) := by rw [Nat.shiftLeft_eq]; simp
   have hwr : IntKind.i64.wrap ((a : Int) * 2 ^ k) = ((a <<< k : Nat) : Int) := by rw [hsh]; exact i64_nat (by omega)
   have hx := i64_xor (a := rmulA a b k) (b := a <<< k) (by omega) (by omega)
   cases htb : b.testBit k with
   | true =>
    rw [htb] at hbt
    have Htb := Lib.hid htb
    clear htb hsh
    go_wp2
    go_round
    case rel =>
     refine ⟨k + 1, by omega, by go_num, ?_⟩
     rw [rmulA, if_pos Htb.out]
     exact congrArg (Value.int .i64) hx
    case measure => simp [intOf]; omega
   | false =>
    rw [htb] at hbt
    have Htb := Lib.hid htb
    clear htb hsh hwr hx hsl
    go_wp2
    go_round
    case rel =>
     refine ⟨k + 1, by omega, by go_num, ?_⟩
     rw [rmulA, if_neg (by rw [Htb.out]; decide)]
    case measure => simp [intOf]; omega
  ·have hk8 : k = 8 := by omega
   subst hk8
   go_wp2
   go_loop [6, 8] (fun p i => ∃ f q : Nat, f ≤ 7 ∧ i = .int .i64 (f + 7 : Nat) ∧ p = .int .i64 q ∧ q < 32768 ∧ rmulB f q = rmulB 7 (rmulA a b 8)) (fun _ i => (intOf i).toNat)
   case atStart => exact ⟨7, _, by omega, rfl, rfl, hrl, rfl⟩
   case round =>
    obtain ⟨f, q, hf, rfl, rfl, hq, hrb⟩ := hrel
    have Hrb := Lib.hid hrb
    clear hrb
    cases f with
    | zero =>
     go_wp2
     go_ret
     refine ⟨ret_num ?_, rfl⟩
     rw [← rmul_eq ha hb]
     unfold rmul
     rw [← Hrb.out]
     rfl
    | succ f =>
     have hbt := i64_bit q (f + 8) (by omega)
     have hsl : 285 <<< f < 32768 := shl_lt (N := 9) (M := 15) (by decide) (by omega)
     have hsh : (285 : Int) * (2 : Int) ^ f = ((285 <<< f : Nat) : Int) := by rw [Nat.shiftLeft_eq]; simp
     have hwr : IntKind.i64.wrap ((285 : Int) * (2 : Int) ^ f) = ((285 <<< f : Nat) : Int) := by rw [hsh]; exact i64_nat (by omega)
     have hw64 : RowKit.wrap64 ((285 : Int) * (2 : Int) ^ f) = ((285 <<< f : Nat) : Int) := (IntWalk.i64_left _).symm.trans hwr
     have hx := i64_xor (a := q) (b := 285 <<< f) (by omega) (by omega)
     have hxl : q ^^^ 285 <<< f < 32768 := Nat.xor_lt_two_pow (n := 15) hq hsl
     cases htb : q.testBit (f + 8) with
     | true =>
      rw [htb] at hbt
      have Htb := Lib.hid htb
      clear htb hsh
      go_wp2
      go_round
      case rel =>
       refine ⟨f, q ^^^ 285 <<< f, by omega, by go_num, congrArg (Value.int .i64) hx, hxl, ?_⟩
       rw [← Hrb.out, rmulB, if_pos Htb.out]
      case measure => simp [intOf]; omega
     | false =>
      rw [htb] at hbt
      have Htb := Lib.hid htb
      clear htb hsh hwr hw64 hx hxl hsl
      go_wp2
      go_round
      case rel =>
       refine ⟨f, q, by omega, by go_num, rfl, hq, ?_⟩
       rw [← Hrb.out, rmulB, if_neg (by rw [Htb.out]; decide)]
      case measure => simp [intOf]; omega

set_option maxHeartbeats 400000 in
theorem r7power_any (w : World) (n : Nat) (hn : n ≤ 1000000) : Calls Tryz.prog 201 #[.int .i64 n] w fun e w' => e = .returned (.int .u8 (pw n : Nat)) ∧ w = w' := by
 go_enter Tryz.func201, Tryz.ntmps201
 go_wp2
 go_loop [3, 4] (fun p i => ∃ k : Nat, k ≤ n ∧ i = .int .i64 k ∧ p = .int .u8 (pw k : Nat)) (fun _ i => n - (intOf i).toNat)
 case atStart => exact ⟨0, by omega, rfl, rfl⟩
 case round =>
  obtain ⟨k, hk, rfl, rfl⟩ := hrel
  by_cases h : k < n
  ·have hI : (k : Int) < n := by omega
   have Hc := Lib.hid (r7times_any w (pw k) 2 (pw_lt k) (by omega))
   have He := Lib.hid (dbl8_mul (pw_lt k))
   go_wp2_with (go_at_call 134; refine Hc.out.mono ?_; rintro e w' ⟨rfl, rfl⟩)
   go_round
   case rel =>
    refine ⟨k + 1, by omega, by go_num, ?_⟩
    rw [pw, He.out]
   case measure => simp [intOf]; omega
  ·have hkn : k = n := by omega
   subst hkn
   go_wp2
   go_ret
   exact ⟨rfl, rfl⟩
set_option maxHeartbeats 400000 in
theorem r5exp_any (w : World) (n : Int) (hn : -1000000 ≤ n ∧ n ≤ 1000000) : Calls Tryz.prog 235 #[.int .i64 n] w fun e w' => e = .returned (.int .u8 (gexp n : Nat)) ∧ w = w' := by
 obtain ⟨h1, h2⟩ := hn
 have h3 : (0 ≤ Int.tmod n 255 ∧ Int.tmod n 255 = gexpN n) ∨ (Int.tmod n 255 < 0 ∧ -254 ≤ Int.tmod n 255 ∧ Int.tmod n 255 + 255 = gexpN n) := by
  unfold gexpN
  by_cases h : 0 ≤ n
  ·left
   rw [Int.tmod_eq_emod_of_nonneg h]
   omega
  ·have e : Int.tmod n 255 = -((-n) % 255) := by
    rw [← Int.tmod_eq_emod_of_nonneg (by omega), Int.neg_tmod, Int.neg_neg]
   rw [e]
   omega
 have hl := gexpN_lt n
 have loop : ∀ (k : Nat), pw (k + 1) = gmul (pw k) 2 := fun k => dbl8_mul (pw_lt k)
 have Hloop := Lib.hid loop
 clear loop
 rcases h3 with ⟨h4, h5⟩ | ⟨h4, h5, h6⟩
 ·have h7 : ¬ Int.tmod n 255 < 0 := by omega
  go_enter Tryz.func235, Tryz.ntmps235
  go_wp2
  go_loop [4, 5] (fun p i => ∃ k : Nat, k ≤ gexpN n ∧ i = .int .i64 k ∧ p = .int .u8 (pw k : Nat)) (fun _ i => gexpN n - (intOf i).toNat)
  case atStart => exact ⟨0, by omega, rfl, rfl⟩
  case round =>
   obtain ⟨k, hk, rfl, rfl⟩ := hrel
   by_cases h : k < gexpN n
   ·have hI : (k : Int) < gexpN n := by omega
    have Hc := Lib.hid (r5mul_any w (pw k) 2 (pw_lt k) (by omega))
    go_wp2_with (go_at_call 206; refine Hc.out.mono ?_; rintro e w' ⟨rfl, rfl⟩)
    go_round
    case rel => exact ⟨k + 1, by omega, by go_num, by rw [Hloop.out k]⟩
    case measure => simp [intOf]; omega
   ·have hkn : k = gexpN n := by omega
    subst hkn
    go_wp2
    go_ret
    exact ⟨rfl, rfl⟩
 ·go_enter Tryz.func235, Tryz.ntmps235
  go_wp2
  go_loop [4, 5] (fun p i => ∃ k : Nat, k ≤ gexpN n ∧ i = .int .i64 k ∧ p = .int .u8 (pw k : Nat)) (fun _ i => gexpN n - (intOf i).toNat)
  case atStart => exact ⟨0, by omega, rfl, rfl⟩
  case round =>
   obtain ⟨k, hk, rfl, rfl⟩ := hrel
   by_cases h : k < gexpN n
   ·have hI : (k : Int) < gexpN n := by omega
    have Hc := Lib.hid (r5mul_any w (pw k) 2 (pw_lt k) (by omega))
    go_wp2_with (go_at_call 206; refine Hc.out.mono ?_; rintro e w' ⟨rfl, rfl⟩)
    go_round
    case rel => exact ⟨k + 1, by omega, by go_num, by rw [Hloop.out k]⟩
    case measure => simp [intOf]; omega
   ·have hkn : k = gexpN n := by omega
    subst hkn
    go_wp2
    go_ret
    exact ⟨rfl, rfl⟩
set_option maxHeartbeats 1000000 in
theorem r5inv_any (w : World) (a : Nat) (ha : a < 256) : Calls Tryz.prog 208 #[.int .u8 a] w fun e w' => e = .returned (ginvR a) ∧ w = w' := by
 go_enter Tryz.func208, Tryz.ntmps208
 go_wp2
 go_loop [4] (fun i => ∃ x : Nat, 1 ≤ x ∧ x ≤ 256 ∧ i = .int .i64 x ∧ ∀ y, 1 ≤ y → y < x → gmul a y ≠ 1) (fun i => 256 - (intOf i).toNat)
 case atStart => exact ⟨1, by omega, by omega, rfl, fun y h1 h2 => by omega⟩
 case round =>
  obtain ⟨x, hx1, hx2, rfl, hno⟩ := hrel
  have Hno := Lib.hid hno
  clear hno
  by_cases h : x < 256
  ·have hI : (x : Int) < 256 := by omega
   have Hc := Lib.hid (r5mul_any w a x ha h)
   by_cases h1 : gmul a x = 1
   ·have e1 : ((gmul a x : Int) == 1) = true := by rw [h1]; rfl
    have hr : ginvR a = .tuple #[.int .u8 (x : Nat), .bool true] := by
     have h0 : a ≠ 0 := fun e => by rw [e, gmul_zero_left h] at h1; cases h1
     unfold ginvR
     rw [if_neg h0, inv_unique ha h h1]
    have Hr := Lib.hid hr
    clear hr h1
    go_wp2_with (go_at_call 206; refine Hc.out.mono ?_; rintro e w' ⟨rfl, rfl⟩)
    go_ret2
    refine ⟨?_, rfl⟩
    rw [Hr.out]
    rfl
   ·have e1 : ((gmul a x : Int) == 1) = false := by
     rw [beq_eq_false_iff_ne]
     omega
    have H1 := Lib.hid h1
    clear h1
    go_wp2_with (go_at_call 206; refine Hc.out.mono ?_; rintro e w' ⟨rfl, rfl⟩)
    go_round
    case rel =>
     refine ⟨x + 1, by omega, by omega, by go_num, fun y h1 h2 => ?_⟩
     rcases Nat.lt_succ_iff_lt_or_eq.1 h2 with h3 | rfl
     ·exact Hno.out y h1 h3
     ·exact H1.out
    case measure => simp [intOf]; omega
  ·have hx : x = 256 := by omega
   subst hx
   have hr : ginvR a = .tuple #[.int .u8 0, .bool false] := by
    unfold ginvR
    by_cases h0 : a = 0
    ·rw [if_pos h0]
    ·have hl := ginv_lt ha
     have hi := gmul_inv ha h0
     have hz : ginv a ≠ 0 := fun e => by rw [e, gmul_zero_right] at hi; cases hi
     exact absurd hi (Hno.out (ginv a) (by omega) hl)
   have Hr := Lib.hid hr
   clear hr
   go_wp2
   go_ret2
   refine ⟨?_, rfl⟩
   rw [Hr.out]
   rfl

end Go.Proofs.YtnlnmfkmbpihhaaGreatDoor

namespace Go.Proofs.YtnlnmfkmbpihhaaGreatDoor.rangeStr
open Go.RowKit Go.Proofs.YtnlnmfkmbpihhaaGreatDoor.rangeOwn

abbrev No : Nat → Prop := fun _ => False
/-- What is no row of cells, and the old blocks, lie as they lay. -/
def Kept (old : Nat → Prop) (A B : World) : Prop := A.heap.size ≤ B.heap.size ∧ ∀ k o, A.heap[k]? = some o → (o.isCells = false ∨ old k) → B.heap[k]? = some o
theorem Kept.trans {S : Nat → Prop} {A B C : World} (h : Kept S A B) (k : Kept S B C) : Kept S A C := ⟨Nat.le_trans h.1 k.1, fun i o hi hs => k.2 i o (h.2 i o hi hs) hs⟩
theorem Kept.refl {S : Nat → Prop} (A : World) : Kept S A A := ⟨Nat.le_refl _, fun _ _ h _ => h⟩

/-- THE ITERATOR's CONTRACT. -/
def IterStr {α : Type} (P : Program) (g : Nat) (lb : Array Value) (Rd : α → Array Value → World → Prop) (old : Nat → Prop) (xs : List α) (W0 : World) : Prop :=
 ∀ (l : Nat) (J : List α → World → Prop) (W : World), Below W0.heap.size W0 W →
  (∀ s A B, J s A → W.heap.size ≤ A.heap.size → Aside No W.heap.size A B → J s B) →
  (∀ pre x args W1, J pre W1 → Rd x args W1 → (pre ++ [x]) <+: xs → YieldAt Fence.wide 0 P l args W1 fun e W' => e = .returned (.bool true) ∧ J (pre ++ [x]) W' ∧ Kept old W1 W') →
  J [] W →
  CallsIn Fence.wide 0 P g (#[.func (.yield l) #[] #[]] ++ lb) W fun e W' => (∃ v, e = .returned v) ∧ J xs W'

/-- The body goes on. -/
def goesOn {α : Type} (S : Nat → Prop) (I : List α → World → Prop) (xs : List α) (W : World) : Exit → Act → World → Prop
 | .normal, _, W' => Kept S W W' ∧ I xs W'
 | _, _, _ => False

end Go.Proofs.YtnlnmfkmbpihhaaGreatDoor.rangeStr

namespace Go.Proofs.YtnlnmfkmbpihhaaGreatDoor.rangeStr
open Go.RowKit Go.Proofs.YtnlnmfkmbpihhaaGreatDoor.rangeOwn

theorem wpIn_rangeFunc_box {α : Type} {P : Program} {g : Operand} {ps : Array Tmp} {assign body : Code} {Q : Exit → Act → World → Prop} {a : Act} {w : World}
  {gf : Nat} {lb : Array Value} (hg : a.eval g = .func (.func gf) #[] lb) (eg : ∀ args w, (callFunc gf args).run P w = .ok (.enter gf args) w)
  {Rd : α → Array Value → World → Prop} {old : Nat → Prop} {xs : List α} (hseq : IterStr P gf lb Rd old xs w)
  (hps : ∀ x args W, Rd x args W → args.size = ps.size) 
  (a₁ : Array Value → World → Act) (w₁ : Array Value → World → World) (hw₁ : ∀ args W, Below W.heap.size W (w₁ args W))
  (Bd : α → Array Value → Act → World → Prop) (hBd : ∀ x args W, Rd x args W → Bd x args (a₁ args W) (w₁ args W)) (hBdA : ∀ x args a A B, Bd x args a A → w.heap.size ≤ A.heap.size → Aside No w.heap.size A B → Bd x args a B)
  (I : List α → World → Prop) (hI : ∀ s A B, I s A → w.heap.size ≤ A.heap.size → Aside No w.heap.size A B → I s B) (h0 : I [] w)
  (hassign : ∀ (l : Nat) (x : α) (args : Array Value) (W : World) (K : Act → World → Prop), Rd x args W → K (a₁ args W) (w₁ args W) →
   assign.wpIn (Fence.wide.inRound l) 0 P (Exit.then K (fun _ _ _ => False)) { tmps := (ps.zip args).foldl (fun t (p, v) => t.setIfInBounds p v) a.tmps, defers := [] } W)
  (hbody : ∀ (l : Nat) (pre : List α) (x : α) (args : Array Value) (a' : Act) (W : World), w.heap.size + 2 ≤ W.heap.size → I pre W → Bd x args a' W → (pre ++ [x]) <+: xs →
   body.wpIn (Fence.wide.inRound l) 0 P (goesOn old I (pre ++ [x]) W) a' W)
  (hdone : ∀ (D : Nat) (W : World), w.heap.size ≤ D → I xs W → W.heap[D]? = some (.deferred (some [])) → Q .normal { a with defers := { target := .collected D, args := #[] } :: a.defers } W) :
  (Code.rangeFunc g ps assign body).wpIn Fence.wide 0 P Q a w := by
 refine wpIn_rangeFunc ?_
 intro fn _
 obtain ⟨rec, hrec⟩ : ∃ rec : LoopState → Option Code → Loop, rec = fun st pe => { state := st, pending := pe, fn, tmps := a.tmps, params := ps, assign, body, defers := w.heap.size } := ⟨_, rfl⟩
 obtain ⟨W1, hW1⟩ : ∃ W1, (w.alloc (.deferred (some []))).alloc (.loop (rec .ready none)) = W1 := ⟨_, rfl⟩
 have hs1 : W1.heap.size = w.heap.size + 2 := by rw [← hW1]; simp
 have hL1 : W1.heap[w.heap.size + 1]? = some (.loop (rec .ready none)) := by
  rw [← hW1]; have := World.alloc_heap_new (w.alloc (.deferred (some []))) (.loop (rec .ready none)); rwa [World.size_alloc] at this
 have hK1 : W1.heap[w.heap.size]? = some (.deferred (some [])) := by
  rw [← hW1]; exact (Below.heap_alloc _ _ _ (by simp)).trans (World.alloc_heap_new w _)
 have hb1 : Below w.heap.size w W1 := by rw [← hW1]; exact ((Below.refl _ w).alloc (Nat.le_refl _) _).alloc (by simp) _
 have hI1 : I [] W1 := hI _ _ _ h0 (Nat.le_refl _) (Aside.of_below hb1 (Nat.le_refl _))
 refine ⟨w.heap.size + 1, [{ target := .collected w.heap.size, args := #[] }], W1, { target := .fn (.func gf) lb, args := #[.func (.yield (w.heap.size + 1)) #[] #[]] }, W1, gf,
  #[.func (.yield (w.heap.size + 1)) #[] #[]] ++ lb, W1, ?_, ?_, fun _ _ => trivial, ?_, (fun h => by cases h), ?_⟩
 ·rw [← hW1, hrec]; exact run_enterLoop_outer _ _ _ _ _
 ·simp only [resolve, hg]
  simp [go_sem]
 ·simp [invoke, go_sem, eg]
 ·refine (hseq (w.heap.size + 1)
   (fun pre W => w.heap.size + 2 ≤ W.heap.size ∧ I pre W ∧ W.heap[w.heap.size + 1]? = some (.loop (rec .ready none)) ∧ W.heap[w.heap.size]? = some (.deferred (some [])))
   W1 hb1 (fun s A B hs hsz hAB => ⟨Nat.le_trans hs.1 hAB.size, hI _ _ _ hs.2.1 (by omega) (hAB.mono (by omega)), (hAB.low _ (by omega) (fun h => h)).trans hs.2.2.1, (hAB.low _ (by omega) (fun h => h)).trans hs.2.2.2⟩)
   ?_ ⟨by omega, hI1, hL1, hK1⟩).mono ?_
  ·rintro pre x args W ⟨hsz, hi, hl, hk⟩ hrd hpre
   have hy := run_yield (P := P) (args := args) hl (by rw [hrec]; exact hps x args W hrd)
   rw [hrec] at hy
   obtain ⟨W0, hW0⟩ : ∃ W0, w₁ args W = W0 := ⟨_, rfl⟩
   have hb0 : Below W.heap.size W W0 := by rw [← hW0]; exact hw₁ args W
   have hl0 : W0.heap[w.heap.size + 1]? = some (.loop (rec .ready none)) := (hb0.block _ (by omega)).trans hl
   have hk0 : W0.heap[w.heap.size]? = some (.deferred (some [])) := (hb0.block _ (by omega)).trans hk
   have hz0 := hb0.size
   have hi0 : I pre W0 := hI _ _ _ hi (by omega) (Aside.of_below hb0 (by omega))
   have hbd0 : Bd x args (a₁ args W) W0 := by rw [← hW0]; exact hBd x args W hrd
   refine ⟨fn, _, assign, body, hy, roundIn_of_wpIn trivial (hassign _ x args W _ hrd ⟨_, by rw [hW0]; exact run_beginRound hl0 (by rw [hrec]), ?_⟩)⟩
   obtain ⟨W2, hW2⟩ : ∃ W2, W0.putObj (w.heap.size + 1) (.loop { rec .ready none with state := .busy }) = W2 := ⟨_, rfl⟩
   have hA2 : Aside No w.heap.size W0 W2 := by rw [← hW2]; exact Aside.putObj _ (by omega) hl0 rfl
   have hl2 : W2.heap[w.heap.size + 1]? = some (.loop { rec .ready none with state := .busy }) := by rw [← hW2]; exact World.putObj_heap_same (by omega)
   have hk2 : W2.heap[w.heap.size]? = some (.deferred (some [])) := by rw [← hW2]; exact (World.putObj_heap_other (by omega)).trans hk0
   have hs2 : W2.heap.size = W0.heap.size := by rw [← hW2]; simp
   rw [hW2]
   refine wpIn_mono (hbody _ pre x args _ W2 (by omega) (hI _ _ _ hi0 (by omega) hA2) (hBdA _ _ _ _ _ hbd0 (by omega) hA2) hpre) ?_
   rintro e a3 W3 hp
   cases e with
   | normal =>
    obtain ⟨hk3, hi3⟩ := hp
    have hl3 : W3.heap[w.heap.size + 1]? = some (.loop { rec .ready none with state := .busy }) := hk3.2 _ _ hl2 (.inl rfl)
    have hd3 : W3.heap[w.heap.size]? = some (.deferred (some [])) := hk3.2 _ _ hk2 (.inl rfl)
    have hs3 := hk3.1
    have hr := run_endRound (P := P) none hl3
    rw [hrec] at hr
    have hA4 : Aside No w.heap.size W3 (W3.putObj (w.heap.size + 1) (.loop (rec .ready none))) := Aside.putObj _ (by omega) hl3 rfl
    rw [hrec] at hA4
    refine ⟨_, _, hr, rfl, ⟨by simp; omega, hI _ _ _ hi3 (by omega) hA4, ?_, ?_⟩, by simp; omega, fun k o hko hkS => ?_⟩
    ·rw [hrec]; exact World.putObj_heap_same (by omega)
    ·exact (World.putObj_heap_other (by omega)).trans hd3
    ·by_cases hkne : k = w.heap.size + 1
     ·subst hkne
      rw [hl] at hko
      rw [← hko, hrec]
      exact World.putObj_heap_same (by omega)
     ·have hko0 : W0.heap[k]? = some o := (hb0.block k (Array.getElem?_eq_some_iff.1 hko).1).trans hko
      refine (World.putObj_heap_other hkne).trans (hk3.2 k o ?_ hkS)
      rw [← hW2]
      exact (World.putObj_heap_other hkne).trans hko0
   | _ => exact hp.elim
  ·rintro e W2 ⟨⟨v, rfl⟩, hsz, hi, hl, hk⟩
   refine ⟨none, _, by have := run_endLoop (P := P) hl (by rw [hrec]; simp); rw [hrec] at this; exact this, hdone _ _ (Nat.le_refl _) (hI _ _ _ hi (by omega) (Aside.putObj _ (by omega) hl rfl)) ((World.putObj_heap_other (by omega)).trans hk)⟩

end Go.Proofs.YtnlnmfkmbpihhaaGreatDoor.rangeStr
