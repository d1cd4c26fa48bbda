/-
 Rows of rows of bytes that the call has made itself; such a matrix as elimination turns it.
 PLAIN: the reference's equations, row by row.
 WALKS: the references' Value, Syndromes, IsCodeword; power, element, has, modified, Locate.
 WALK: the reference's gauss.
 WALK: the reference's errors (steleref08), no erasures.
 WALK: the reference's values (steleref08).
 WALK: the reference's Decode of the outer code (steleref08), no erasures.
-/
import Derived.Test.YtnlnmfkmbpihhaaGreatDoorRsU
import Derived.Test.YtnlnmfkmbpihhaaGreatDoorCrcA
import Derived.Test.YtnlnmfkmbpihhaaGreatDoorRfA
import Derived.Test.YtnlnmfkmbpihhaaGreatDoorPolW
import Derived.BigQuiet
namespace Go.Proofs.YtnlnmfkmbpihhaaGreatDoor
open Go.RowKit

theorem Tryz.infoU8s : (Tryz.prog.info? 100).map (fun i => (i.zero, i.size, i.bytes)) = some (some (.slice none 0 0), 1, 24) := by kernel_rfl
abbrev BRow := Nat × Nat × List Nat
def rowV8 (x : BRow) : Value := .slice (some ⟨x.1, 0, none⟩) x.2.2.length x.2.1
structure RowsB (w : World) (B : Nat) (v : Value) (R : List BRow) : Prop where
 own : w.ownsRow B 100 1 v R.length (R.map rowV8)
 each : ∀ x ∈ R, w.ownsRow B 5 1 (rowV8 x) x.2.2.length (x.2.2.map u8V) ∧ v.ownBlock ≠ some x.1
 pair : R.Pairwise fun x y => x.1 < y.1
theorem own_below8 {w w' : World} {B n : Nat} {t : TypeId} {v : Value} {xs : List Value} (h : w.ownsRow B t 1 v n xs) (hb : Below w.heap.size w w') : w'.ownsRow B t 1 v n xs := by
 obtain ⟨hl, h⟩ := h
 refine ⟨hl, h.imp id ?_⟩
 rintro ⟨g, cap, cur, e, hB, hg, r⟩
 exact ⟨g, cap, cur, e, hB, (hb.block g (Array.getElem?_eq_some_iff.1 hg).1).trans hg, r⟩
theorem own_grown8 {w w' : World} {B n : Nat} {t : TypeId} {x : BRow} {xs : List Value} {row : Option Nat} (h : w.ownsRow B t 1 (rowV8 x) n xs) (hg : w.grownBy w' row) (hne : row ≠ some x.1) : w'.ownsRow B t 1 (rowV8 x) n xs := by
 obtain ⟨hl, h⟩ := h
 refine ⟨hl, h.imp id ?_⟩
 rintro ⟨g, cap, cur, e, hB, hh, r⟩
 have : g = x.1 := by
  have := e
  unfold rowV8 at this
  cases this
  rfl
 subst this
 exact ⟨x.1, cap, cur, e, hB, (hg.block x.1 (Array.getElem?_eq_some_iff.1 hh).1 hne.symm).trans hh, r⟩
theorem own_lt8 {w : World} {B n : Nat} {t : TypeId} {x : BRow} {xs : List Value} (h : w.ownsRow B t 1 (rowV8 x) n xs) : B ≤ x.1 ∧ x.1 < w.heap.size := h.lt x.1 rfl
theorem RowsB.nil (w : World) (B : Nat) : RowsB w B (.slice none 0 0) [] := ⟨World.ownsRow_nil _ _ _ _, (fun x hx => by cases hx), .nil⟩
theorem RowsB.below {w w' : World} {B : Nat} {v : Value} {R : List BRow} (h : RowsB w B v R) (hb : Below w.heap.size w w') : RowsB w' B v R :=
 ⟨own_below8 h.own hb, fun x hx => ⟨own_below8 (h.each x hx).1 hb, (h.each x hx).2⟩, h.pair⟩
/-- One more row. -/
theorem RowsB.snoc {w w1 w2 : World} {B : Nat} {v v' : Value} {R : List BRow} (h : RowsB w B v R) (hBw : B ≤ w.heap.size) (hb : Below w.heap.size w w1) {x : BRow} (hx : w1.ownsRow w.heap.size 5 1 (rowV8 x) x.2.2.length (x.2.2.map u8V))
  (hown : w2.ownsRow B 100 1 v' (R.length + 1) (R.map rowV8 ++ [rowV8 x])) (hg : w1.grownBy w2 v.ownBlock) (hat : v'.ownBlock = v.ownBlock ∨ ∃ k, v'.ownBlock = some k ∧ w1.heap.size ≤ k) : RowsB w2 B v' (R ++ [x]) := by
 have hxl := own_lt8 hx
 have hvl : ∀ k, v.ownBlock = some k → k < w.heap.size := fun k hk => (h.own.lt k hk).2
 have hsz := hb.size
 have hvx : v.ownBlock ≠ some x.1 := fun e => by have := hvl _ e; omega
 refine ⟨by simpa using hown, fun y hy => ?_, ?_⟩
 ·rcases List.mem_append.1 hy with hy | hy
  ·have h1 := h.each y hy
   have h2 := own_lt8 h1.1
   refine ⟨own_grown8 (own_below8 h1.1 hb) hg h1.2, fun e => ?_⟩
   rcases hat with a | ⟨k, a, hk⟩
   ·exact h1.2 (a ▸ e)
   ·rw [a] at e
    have e := Option.some.inj e
    omega
  ·obtain rfl : y = x := by simpa using hy
   refine ⟨own_mono (own_grown8 hx hg hvx) hBw, fun e => ?_⟩
   rcases hat with a | ⟨k, a, hk⟩
   ·exact hvx (a ▸ e)
   ·rw [a] at e
    have e := Option.some.inj e
    omega
 ·rw [List.pairwise_append]
  refine ⟨h.pair, List.pairwise_singleton _ _, fun a ha b hb => ?_⟩
  obtain rfl : b = x := by simpa using hb
  have := own_lt8 (h.each a ha).1
  omega
theorem RowB.of_own {w : World} {B g n c : Nat} {xs : List Nat} (h : w.ownsRow B 5 1 (.slice (some ⟨g, 0, none⟩) n c) n (xs.map u8V)) : RowB w g xs ∧ n = xs.length ∧ n ≤ c ∧ c ≤ 9223372036854775807 ∧ B ≤ g := by
 obtain ⟨hl, ⟨e, _⟩ | ⟨g', cap, cur, e, hB, hh, hnc, hm, hsz, htk⟩⟩ := h
 ·cases e
 ·cases e
  rw [List.length_map] at hl
  refine ⟨⟨(Array.getElem?_eq_some_iff.1 hh).1, fun i x hx => ?_, fun i _ => ?_⟩, by omega, hnc, hm, hB⟩
  ·have h2 : (xs.map u8V)[i]? = some (u8V x) := by rw [List.getElem?_map, hx]; rfl
   rw [← htk, List.getElem?_take] at h2
   split at h2
   ·simp only [World.cell?, hh]
    simpa using h2
   ·cases h2
  ·simp only [World.frozen?, hh]
   simp

/-- Block g holds the rows' slices, row j lying in block p j. -/
structure MatM (W : World) (B g m n : Nat) (p c : Nat → Nat) (R : List (List Nat)) : Prop where
 len : R.length = m
 ptr : ∀ j, j < m → W.cell? ⟨g, j, none⟩ = some (.slice (some ⟨p j, 0, none⟩) (n + 1) (c j)) ∧ W.frozen? ⟨g, j, none⟩ = false
 row : ∀ j, j < m → RowB W (p j) (rowOf R j)
 cap : ∀ j, j < m → (rowOf R j).length = n + 1 ∧ n + 1 ≤ c j ∧ c j ≤ 9223372036854775807
 far : ∀ j, j < m → p j ≠ g ∧ B ≤ p j
 own : B ≤ g
 lt : g < W.heap.size
 ne : ∀ i j, i < m → j < m → i ≠ j → p i ≠ p j
theorem rowOf_get {R : List (List Nat)} {j : Nat} {r : List Nat} (h : R[j]? = some r) : rowOf R j = r := by unfold rowOf; rw [h]; rfl
theorem MatM.of_rows {w : World} {B n g l cc : Nat} {R : List BRow} (h : RowsB w B (.slice (some ⟨g, 0, none⟩) l cc) R) (hr : ∀ x ∈ R, x.2.2.length = n + 1) :
  MatM w B g R.length n (fun j => ((R[j]?).getD (0, 0, [])).1) (fun j => ((R[j]?).getD (0, 0, [])).2.1) (R.map (·.2.2)) := by
 obtain ⟨hl, ⟨e, _⟩ | ⟨g', cap, cur, e, hB, hh, hnc, hm, hsz, htk⟩⟩ := h.own
 ·cases e
 ·cases e
  have hget : ∀ j, j < R.length → ∃ x, R[j]? = some x ∧ x ∈ R ∧ (R[j]?).getD (0, 0, []) = x ∧ rowOf (R.map (·.2.2)) j = x.2.2 := fun j hj =>
   ⟨R[j], List.getElem?_eq_getElem hj, List.getElem_mem hj, by rw [List.getElem?_eq_getElem hj]; rfl, rowOf_get (by rw [List.getElem?_map, List.getElem?_eq_getElem hj]; rfl)⟩
  refine ⟨by rw [List.length_map], fun j hj => ?_, fun j hj => ?_, fun j hj => ?_, fun j hj => ?_, hB, (Array.getElem?_eq_some_iff.1 hh).1, fun i j hi hj hij => ?_⟩
  ·obtain ⟨x, h1, h2, h3, h4⟩ := hget j hj
   try dsimp only
   rw [h3]
   constructor
   ·have h5 : (R.map rowV8)[j]? = some (rowV8 x) := by rw [List.getElem?_map, h1]; rfl
    rw [← htk, List.getElem?_take] at h5
    split at h5
    ·simp only [World.cell?, hh]
     unfold rowV8 at h5
     rw [hr x h2] at h5
     simpa using h5
    ·cases h5
   ·simp only [World.frozen?, hh]
    simp
  ·obtain ⟨x, h1, h2, h3, h4⟩ := hget j hj
   try dsimp only
   rw [h3, h4]
   exact (RowB.of_own (h.each x h2).1).1
  ·obtain ⟨x, h1, h2, h3, h4⟩ := hget j hj
   try dsimp only
   rw [h3, h4]
   obtain ⟨k1, k2, k3, k4, k5⟩ := RowB.of_own (h.each x h2).1
   exact ⟨hr x h2, by rw [← hr x h2]; exact k3, k4⟩
  ·obtain ⟨x, h1, h2, h3, h4⟩ := hget j hj
   try dsimp only
   rw [h3]
   exact ⟨fun e => (h.each x h2).2 (by rw [e]; rfl), (own_lt8 (h.each x h2).1).1⟩
  ·have hp := List.pairwise_iff_getElem.1 h.pair
   try dsimp only
   rw [List.getElem?_eq_getElem hi, List.getElem?_eq_getElem hj]
   rcases Nat.lt_or_ge i j with h1 | h1
   ·have := hp i j hi hj h1
    show (R[i]).1 ≠ (R[j]).1
    omega
   ·have := hp j i hj hi (by omega)
    show (R[i]).1 ≠ (R[j]).1
    omega
section
variable {W W' : World} {B g m n : Nat} {p c : Nat → Nat} {R : List (List Nat)}
theorem MatM.below (h : MatM W B g m n p c R) (hb : Below W.heap.size W W') : MatM W' B g m n p c R :=
 ⟨h.len, fun j hj => ⟨cell_below hb (h.ptr j hj).1, (hb.frozen (p := ⟨g, j, none⟩) h.lt).trans (h.ptr j hj).2⟩, fun j hj => (h.row j hj).kept hb, h.cap, h.far, h.own, Nat.lt_of_lt_of_le h.lt hb.size, h.ne⟩
theorem MatM.get (h : MatM W B g m n p c R) {j k : Nat} (hj : j < m) (hk : k ≤ n) : W.cell? ⟨p j, k, none⟩ = some (.int .u8 ((cf (rowOf R j) k : Nat) : Int)) ∧ W.frozen? ⟨p j, k, none⟩ = false := by
 have hl := (h.cap j hj).1
 refine ⟨(h.row j hj).cell k _ ?_, (h.row j hj).free k (by omega)⟩
 unfold cf
 rw [List.getElem?_eq_getElem (by omega)]
 rfl
theorem MatM.set (h : MatM W B g m n p c R) {j : Nat} (hj : j < m) (k x : Nat) : MatM (W.setCell ⟨p j, k, none⟩ (.int .u8 (x : Int))) B g m n p c (R.set j ((rowOf R j).set k x)) := by
 have hf := (h.far j hj).1
 have hro : ∀ i, rowOf (R.set j ((rowOf R j).set k x)) i = if j = i then (rowOf R j).set k x else rowOf R i := fun i => rowOf_set (by rw [h.len]; exact hj) _ i
 refine ⟨by rw [List.length_set]; exact h.len, fun i hi => ⟨?_, ?_⟩, fun i hi => ?_, fun i hi => ?_, h.far, h.own, by simpa using h.lt, h.ne⟩
 ·exact (World.cell?_setCell_other _ _ _ _ (fun e => hf (by injection e))).trans (h.ptr i hi).1
 ·rw [World.frozen?_setCell]; exact (h.ptr i hi).2
 ·rw [hro]
  by_cases e : j = i
  ·subst e
   rw [if_pos rfl]
   exact (h.row j hj).set k x
  ·rw [if_neg e]
   exact (h.row i hi).of_heap (Below.heap_setCell W ⟨p j, k, none⟩ _ _ (fun e2 => h.ne j i hj hi e e2.symm))
 ·rw [hro]
  split
  ·next e => rw [List.length_set, ← e]; exact h.cap j hj
  ·exact h.cap i hi
/-- Two rows exchanged. -/
theorem MatM.swap (h : MatM W B g m n p c R) {i a : Nat} (hi : i < m) (ha : a < m) :
  MatM ((W.setCell ⟨g, i, none⟩ (.slice (some ⟨p a, 0, none⟩) (n + 1) (c a))).setCell ⟨g, a, none⟩ (.slice (some ⟨p i, 0, none⟩) (n + 1) (c i))) B g m n (fun j => if a = j then p i else if i = j then p a else p j) (fun j => if a = j then c i else if i = j then c a else c j) (swapR R i a) := by
 have hr := swap_row (R := R) (i := i) (a := a) (by rw [h.len]; exact hi) (by rw [h.len]; exact ha)
 have hrow : ∀ q r, q ≠ g → RowB W q r → RowB ((W.setCell ⟨g, i, none⟩ (.slice (some ⟨p a, 0, none⟩) (n + 1) (c a))).setCell ⟨g, a, none⟩ (.slice (some ⟨p i, 0, none⟩) (n + 1) (c i))) q r := fun q r hq hb =>
  hb.of_heap ((Below.heap_setCell _ ⟨g, a, none⟩ _ _ hq).trans (Below.heap_setCell _ ⟨g, i, none⟩ _ _ hq))
 refine ⟨by unfold swapR; rw [List.length_set, List.length_set]; exact h.len, fun j hj => ⟨?_, ?_⟩, fun j hj => ?_, fun j hj => ?_, fun j hj => ?_, h.own, by simpa using h.lt, fun j k hj hk hjk => ?_⟩
 ·have h1 : (W.setCell ⟨g, i, none⟩ (.slice (some ⟨p a, 0, none⟩) (n + 1) (c a))).cell? ⟨g, a, none⟩ ≠ none := by
   by_cases e : i = a
   ·subst e
    rw [World.cell?_setCell_same' _ _ _ (by rw [(h.ptr i hi).1]; rfl)]
    simp
   ·rw [World.cell?_setCell_other _ _ _ _ (fun e2 => e (by injection e2)), (h.ptr a ha).1]
    simp
  try dsimp only
  by_cases e : a = j
  ·subst e
   rw [if_pos rfl, if_pos rfl]
   exact World.cell?_setCell_same' _ _ _ (Option.isSome_iff_ne_none.2 h1)
  ·rw [if_neg e, if_neg e, World.cell?_setCell_other _ _ _ _ (fun e2 => e (by injection e2))]
   by_cases e2 : i = j
   ·subst e2
    rw [if_pos rfl, if_pos rfl]
    exact World.cell?_setCell_same' _ _ _ (by rw [(h.ptr i hi).1]; rfl)
   ·rw [if_neg e2, if_neg e2, World.cell?_setCell_other _ _ _ _ (fun e3 => e2 (by injection e3))]
    exact (h.ptr j hj).1
 ·rw [World.frozen?_setCell, World.frozen?_setCell]; exact (h.ptr j hj).2
 ·rw [hr]
  try dsimp only
  split
  ·exact hrow _ _ (h.far i hi).1 (h.row i hi)
  ·split
   ·exact hrow _ _ (h.far a ha).1 (h.row a ha)
   ·exact hrow _ _ (h.far j hj).1 (h.row j hj)
 ·rw [hr]
  try dsimp only
  split
  ·exact h.cap i hi
  ·split
   ·exact h.cap a ha
   ·exact h.cap j hj
 ·try dsimp only
  split
  ·exact h.far i hi
  ·split
   ·exact h.far a ha
   ·exact h.far j hj
 ·try dsimp only
  have n1 := h.ne i a hi ha
  have n2 := h.ne a i ha hi
  have n3 := h.ne i k hi hk
  have n4 := h.ne j i hj hi
  have n5 := h.ne a k ha hk
  have n6 := h.ne j a hj ha
  have n7 := h.ne j k hj hk hjk
  by_cases e1 : a = j
  ·rw [if_pos e1, if_neg (by omega)]
   by_cases e3 : i = k
   ·rw [if_pos e3]; exact n1 (by omega)
   ·rw [if_neg e3]; exact n3 e3
  ·rw [if_neg e1]
   by_cases e2 : i = j
   ·rw [if_pos e2]
    by_cases e3 : a = k
    ·rw [if_pos e3]; exact n2 (by omega)
    ·rw [if_neg e3, if_neg (by omega)]; exact n5 e3
   ·rw [if_neg e2]
    by_cases e3 : a = k
    ·rw [if_pos e3]; exact n4 (fun e => e2 e.symm)
    ·rw [if_neg e3]
     by_cases e4 : i = k
     ·rw [if_pos e4]; exact n6 (fun e => e1 e.symm)
     ·rw [if_neg e4]; exact n7
theorem MatM.drew (h : MatM W B g m n p c R) : MatM W.drew B g m n p c R := ⟨h.len, h.ptr, fun j hj => (h.row j hj).of_heap rfl, h.cap, h.far, h.own, h.lt, h.ne⟩
end

/-! steps of elimination -/
def scaleK (r : List Nat) (b k : Nat) : List Nat := (List.range r.length).map fun j => if j < k then gmul (cf r j) b else cf r j
theorem scaleK_len (r : List Nat) (b k : Nat) : (scaleK r b k).length = r.length := by unfold scaleK; rw [List.length_map, List.length_range]
theorem scaleK_zero (r : List Nat) (b : Nat) : scaleK r b 0 = r := cf_ext (scaleK_len _ _ _) fun i hi => by
 rw [scaleK_len] at hi
 unfold scaleK
 rw [cf_map, if_pos hi, if_neg (Nat.not_lt_zero _)]
theorem scaleK_all (r : List Nat) (b : Nat) {k : Nat} (hk : r.length ≤ k) : scaleK r b k = scaleR r b := by
 unfold scaleK scaleR
 exact List.map_congr_left fun j hj => if_pos (by have := List.mem_range.1 hj; omega)
theorem scaleK_cf (r : List Nat) (b k : Nat) {j : Nat} (hj : j < r.length) : cf (scaleK r b k) j = if j < k then gmul (cf r j) b else cf r j := by unfold scaleK; rw [cf_map, if_pos hj]
theorem scaleK_step (r : List Nat) (b k : Nat) (hk : k < r.length) : (scaleK r b k).set k (gmul (cf (scaleK r b k) k) b) = scaleK r b (k + 1) := cf_ext (by rw [List.length_set, scaleK_len, scaleK_len]) fun i hi => by
 rw [List.length_set, scaleK_len] at hi
 rw [cf_set _ _ _ _ (by rw [scaleK_len]; exact hk), scaleK_cf r b k hk, if_neg (Nat.lt_irrefl _), scaleK_cf r b (k + 1) hi, scaleK_cf r b k hi]
 by_cases e : k = i
 ·subst e
  rw [if_pos rfl, if_pos (Nat.lt_succ_self _)]
 ·rw [if_neg e]
  by_cases h : i < k
  ·rw [if_pos h, if_pos (by omega)]
  ·rw [if_neg h, if_neg (by omega)]
def elimK (c : Nat) (a b : List Nat) (k : Nat) : List Nat := (List.range a.length).map fun j => if j < k then cf a j ^^^ gmul c (cf b j) else cf a j
theorem elimK_len (c : Nat) (a b : List Nat) (k : Nat) : (elimK c a b k).length = a.length := by unfold elimK; rw [List.length_map, List.length_range]
theorem elimK_cf (c : Nat) (a b : List Nat) (k : Nat) {j : Nat} (hj : j < a.length) : cf (elimK c a b k) j = if j < k then cf a j ^^^ gmul c (cf b j) else cf a j := by unfold elimK; rw [cf_map, if_pos hj]
theorem elimK_zero (c : Nat) (a b : List Nat) : elimK c a b 0 = a := cf_ext (elimK_len _ _ _ _) fun i hi => by
 rw [elimK_len] at hi
 rw [elimK_cf c a b 0 hi, if_neg (Nat.not_lt_zero _)]
theorem elimK_all (c : Nat) (a b : List Nat) {k : Nat} (hk : a.length ≤ k) : elimK c a b k = elimR c a b := by
 unfold elimK elimR
 exact List.map_congr_left fun j hj => if_pos (by have := List.mem_range.1 hj; omega)
theorem elimK_step (c : Nat) (a b : List Nat) (k : Nat) (hk : k < a.length) : (elimK c a b k).set k (cf (elimK c a b k) k ^^^ gmul c (cf b k)) = elimK c a b (k + 1) := cf_ext (by rw [List.length_set, elimK_len, elimK_len]) fun i hi => by
 rw [List.length_set, elimK_len] at hi
 rw [cf_set _ _ _ _ (by rw [elimK_len]; exact hk), elimK_cf c a b k hk, if_neg (Nat.lt_irrefl _), elimK_cf c a b (k + 1) hi, elimK_cf c a b k hi]
 by_cases e : k = i
 ·subst e
  rw [if_pos rfl, if_pos (Nat.lt_succ_self _)]
 ·rw [if_neg e]
  by_cases h : i < k
  ·rw [if_pos h, if_pos (by omega)]
  ·rw [if_neg h, if_neg (by omega)]
theorem list_set_set {α : Type} (l : List α) (i : Nat) (a b : α) : (l.set i a).set i b = l.set i b := List.set_set ..
theorem set_row {R : List (List Nat)} {i : Nat} (hi : i < R.length) : R.set i (rowOf R i) = R := by
 refine List.ext_getElem? fun j => ?_
 rw [List.getElem?_set]
 by_cases e : i = j
 ·subst e
  rw [if_pos rfl, if_pos hi]
  unfold rowOf
  rw [List.getElem?_eq_getElem hi]
  rfl
 ·rw [if_neg e]
end Go.Proofs.YtnlnmfkmbpihhaaGreatDoor

namespace Go.Proofs.YtnlnmfkmbpihhaaGreatDoor
open Go.RowKit

abbrev NatsAt (w : World) (v : Value) (xs : List Nat) : Prop := SlAt (PlainR natV) w v xs
theorem NatsAt.below {w w' : World} {v : Value} {xs : List Nat} (h : NatsAt w v xs) (hb : Below w.heap.size w w') : NatsAt w' v xs :=
 SlAt.keep h (fun _ _ => cell_below hb) plainR_keep
theorem rowE_len (t : List Nat) (e j : Nat) : (rowE t e j).length = e + 1 := by unfold rowE; rw [List.length_map, List.length_range]
theorem rowE_cf (t : List Nat) (e j : Nat) {k : Nat} (h : k < e + 1) : cf (rowE t e j) k = if k < e then cf t (j - (k + 1)) else cf t j := by unfold rowE; rw [cf_map, if_pos h]
theorem rowE_step (t : List Nat) (e j : Nat) {k : Nat} (h : k < e) : (rowE t e j).take k ++ [cf t (j - (k + 1))] = (rowE t e j).take (k + 1) := by
 rw [take_snoc_cf (by rw [rowE_len]; omega), rowE_cf t e j (by omega), if_pos h]
theorem rowE_full (t : List Nat) (e j : Nat) : (rowE t e j).take e ++ [cf t j] = rowE t e j := by
 have h := take_snoc_cf (f := rowE t e j) (j := e) (by rw [rowE_len]; omega)
 rw [rowE_cf t e j (by omega), if_neg (Nat.lt_irrefl _), List.take_of_length_le (by rw [rowE_len]; exact Nat.le_refl _)] at h
 exact h.symm
theorem rowsE_len (t : List Nat) (e : Nat) : (rowsE t e).length = 8 - e := by unfold rowsE; rw [List.length_map, List.length_range]
theorem map_take_step {α : Type} (f : Nat → α) {m i : Nat} (h : i < m) : ((List.range m).map f).take i ++ [f i] = ((List.range m).map f).take (i + 1) := by
 rw [List.take_succ_eq_append_getElem (by rw [List.length_map, List.length_range]; exact h)]
 simp
theorem rowsE_step (t : List Nat) (e : Nat) {i : Nat} (h : i < 8 - e) : (rowsE t e).take i ++ [rowE t e (e + i)] = (rowsE t e).take (i + 1) := map_take_step (fun i => rowE t e (e + i)) h
theorem rowV_len (w at_ : List Nat) (j : Nat) : (rowV w at_ j).length = at_.length + 1 := by unfold rowV; rw [List.length_map, List.length_range]
theorem rowV_cf (w at_ : List Nat) (j : Nat) {k : Nat} (h : k < at_.length + 1) : cf (rowV w at_ j) k = if k < at_.length then xp (pw (w.length - 1 - cf at_ k)) j else cf (synd w) j := by unfold rowV; rw [cf_map, if_pos h]
theorem rowV_step (w at_ : List Nat) (j : Nat) {k : Nat} (h : k < at_.length) : (rowV w at_ j).take k ++ [xp (pw (w.length - 1 - cf at_ k)) j] = (rowV w at_ j).take (k + 1) := by
 rw [take_snoc_cf (by rw [rowV_len]; omega), rowV_cf w at_ j (by omega), if_pos h]
theorem rowV_full (w at_ : List Nat) (j : Nat) : (rowV w at_ j).take at_.length ++ [cf (synd w) j] = rowV w at_ j := by
 have h := take_snoc_cf (f := rowV w at_ j) (j := at_.length) (by rw [rowV_len]; omega)
 rw [rowV_cf w at_ j (by omega), if_neg (Nat.lt_irrefl _), List.take_of_length_le (by rw [rowV_len]; exact Nat.le_refl _)] at h
 exact h.symm
theorem rowsV_len (w at_ : List Nat) : (rowsV w at_).length = 8 := by unfold rowsV; rw [List.length_map, List.length_range]
theorem rowsV_step (w at_ : List Nat) {j : Nat} (h : j < 8) : (rowsV w at_).take j ++ [rowV w at_ j] = (rowsV w at_).take (j + 1) := map_take_step (fun j => rowV w at_ j) h
/-- The places found among the first i. -/
def errsTo (l : List Nat) (n e i : Nat) : List Nat := (List.range i).filter fun i => sumE l (ginv (pw (n - 1 - i))) e == 0
theorem errsTo_yes {l : List Nat} {n e i : Nat} (h : sumE l (ginv (pw (n - 1 - i))) e = 0) : errsTo l n e (i + 1) = errsTo l n e i ++ [i] := by
 unfold errsTo
 rw [List.range_succ, List.filter_append, List.filter_cons, h]
 rfl
theorem errsTo_no {l : List Nat} {n e i : Nat} (h : sumE l (ginv (pw (n - 1 - i))) e ≠ 0) : errsTo l n e (i + 1) = errsTo l n e i := by
 unfold errsTo
 rw [List.range_succ, List.filter_append, List.filter_cons, if_neg (by simpa using h)]
 simp
theorem errsTo_len (l : List Nat) (n e i : Nat) : (errsTo l n e i).length ≤ i := by
 unfold errsTo
 refine Nat.le_trans (List.length_filter_le _ _) ?_
 rw [List.length_range]
 exact Nat.le_refl _
theorem sumE_lt {l : List Nat} (hl : Bytes l) {x : Nat} (hx : x < 256) : ∀ k, sumE l x k < 256
 | 0 => by unfold sumE; omega
 | k + 1 => by unfold sumE; exact xor_lt (sumE_lt hl hx k) (gmul_lt _ (cf_lt hl k))
theorem gexp_pw {n : Nat} (h : n < 255) : gexp (n : Int) = pw n := by
 unfold gexp gexpN
 congr 1
 omega
theorem fixV_len (w at_ y : List Nat) : ∀ k, (fixV w at_ y k).length = w.length
 | 0 => rfl
 | k + 1 => by unfold fixV; rw [List.length_set, fixV_len w at_ y k]
theorem fixV_bytes {w y : List Nat} (hw : Bytes w) (hy : Bytes y) (at_ : List Nat) : ∀ k, Bytes (fixV w at_ y k)
 | 0 => hw
 | k + 1 => by
  have ih := fixV_bytes hw hy at_ k
  unfold fixV
  exact set_bytes ih _ (xor_lt (cf_lt ih _) (cf_lt hy _))
theorem synd_step (w : List Nat) {i : Nat} (h : i < 8) : (synd w).take i ++ [wv (pw i) w] = (synd w).take (i + 1) := map_take_step (fun i => wv (pw i) w) h
end Go.Proofs.YtnlnmfkmbpihhaaGreatDoor

namespace Go.Proofs.YtnlnmfkmbpihhaaGreatDoor
open Go.RowKit

set_option maxRecDepth 100000 in
set_option maxHeartbeats 8000000 in
theorem r7value_any (w : World) (s : ByteArray) (x : Nat) (hx : x < 256) (hs : s.size ≤ 1000000) : Calls Tryz.prog 204 #[.string s, .int .u8 (x : Int)] w fun e w' => e = .returned (.int .u8 (wv x (bs s) : Nat)) ∧ Below w.heap.size w w' := by
 have hby : Bytes (bs s) := fun b hb => bs_lt s b hb
 have Htm := Lib.hid (fun W a ha => r7times_any W a x ha hx)
 go_enter Tryz.func204, Tryz.ntmps204
 go_wp2
 go_loopw [5, 6] (fun v i wr => ∃ k : Nat, k ≤ s.size ∧ i = .int .i64 (k : Int) ∧ v = .int .u8 (wv x ((bs s).take k) : Nat) ∧ Below w.heap.size w wr) (fun _ i _ => s.size - (intOf i).toNat)
 case atStart => exact ⟨0, by omega, rfl, rfl, Below.refl _ _⟩
 case round =>
  obtain ⟨k, hk, rfl, rfl, hB⟩ := hrel
  have HBr := Lib.hid hB
  clear hB
  by_cases h : k < s.size
  ·have hkI : (k : Int) < s.size := by omega
   have hst : wv x ((bs s).take (k + 1)) = gmul (wv x ((bs s).take k)) x ^^^ (s[k]'h).toNat := by rw [take_snoc_cf (by rw [bs_len]; exact h), wv_snoc, bsc s k h]
   have Hst := Lib.hid hst
   have hv : wv x ((bs s).take k) < 256 := wv_lt fun b hb => hby b (List.mem_of_mem_take hb)
   have Ht := Lib.hid (fun W => Htm.out W _ hv)
   have hb : (s[k]'h).toNat < 256 := by rw [← bsc s k h]; exact cf_lt hby k
   have hxx := u8_xor (gmul_lt x hv) hb
   clear hst
   generalize gmul (wv x ((bs s).take k)) x = z at *
   generalize wv x ((bs s).take k) = y at *
   go_wp2
   go_quiet (first | (go_at_call 134; refine Calls.quiet_of_same (still_of (Ht.out _))))
   go_wp2
   go_roundw
   case rel => exact ⟨k + 1, by omega, by go_num, by rw [Hst.out], below_drewN HBr.out nq⟩
   case measure => simp [intOf]; omega
  ·obtain rfl : k = s.size := by omega
   have ht : (bs s).take s.size = bs s := List.take_of_length_le (by rw [bs_len]; exact Nat.le_refl _)
   rw [ht]
   go_wp2
   go_ret
   exact ⟨rfl, HBr.out⟩

set_option maxRecDepth 100000 in
set_option maxHeartbeats 8000000 in
theorem r7syn_any (w : World) (s : ByteArray) (hs : s.size = 52) : Calls Tryz.prog 143 #[.string s, .int .i64 8] w fun e w' => ∃ v, e = .returned (.tuple #[v, .int .i64 0]) ∧ BytesAt w' v (synd (bs s)) ∧ Below w.heap.size w w' := by
 have Hp := Lib.hid (fun W (i : Nat) (h : i ≤ 8) => r7power_any W i (by omega))
 have Hv := Lib.hid (fun W i => r7value_any W s (pw i) (pw_lt i) (by omega))
 have hsI : (s.size : Int) = 52 := by omega
 have HK0 : Hid ((w.alloc (.cells #[] 5)).ownsRow w.heap.size 5 1 (.slice (some ⟨w.heap.size, 0, none⟩) 0 0) 0 (((synd (bs s)).take 0).map u8V)) := Lib.hid (own_empty w 5 1)
 have HB0 := Lib.hid ((Below.refl w.heap.size w).alloc (Nat.le_refl _) (.cells #[] 5))
 go_enter Tryz.func143, Tryz.ntmps143
 go_wp2
 go_loopw [6, 7] (fun v x wr => ∃ i : Nat, i ≤ 8 ∧ x = .int .i64 (i : Int) ∧ wr.ownsRow w.heap.size 5 1 v i (((synd (bs s)).take i).map u8V) ∧ Below w.heap.size w wr) (fun _ x _ => 8 - (intOf x).toNat)
 case atStart => exact ⟨0, by omega, rfl, HK0.out, HB0.out⟩
 case round =>
  obtain ⟨i, hi, rfl, ho, hB⟩ := hrel
  clear HK0 HB0
  have Ho := Lib.hid ho
  have HBr := Lib.hid hB
  clear ho hB
  by_cases h : i < 8
  ·have hiI : (i : Int) < 8 := by omega
   have hst := Lib.hid (synd_step (bs s) h)
   have hi9 : i ≤ 900000 := by omega
   go_upto_region 11 with fail
   go_wp2_with (first | (go_at_call 201; refine (Hp.out _ i hi).mono ?_; rintro e w1 ⟨rfl, rfl⟩) | (go_at_call 204; refine (Hv.out _ i).mono ?_; rintro e w2 ⟨rfl, hb2⟩; have Ho2 := Lib.hid (own_below8 Ho.out hb2); have HB2 := Lib.hid (HBr.out.trans (hb2.mono HBr.out.size)); have hBz := HB2.out.size; clear hb2) | (at_builtin; refine wpList_app1 rfl _ _ rfl rfl rfl Ho2.out hi9 hBz ?_; intro v1 w3 ho1 hb1))
   go_roundw
   case rel =>
    refine ⟨i + 1, by omega, by go_num, ?_, HB2.out.trans hb1⟩
    rw [← hst.out]
    exact ho1
   case measure => simp [intOf]; omega
  ·obtain rfl : i = 8 := by omega
   have ht : (synd (bs s)).take 8 = synd (bs s) := List.take_of_length_le (by rw [synd_len]; exact Nat.le_refl _)
   have ho := Ho.out
   rw [ht] at ho
   have Hv2 := Lib.hid (BytesAt.of_own ho)
   clear ho Ho
   go_wp2
   go_ret2
   exact ⟨_, rfl, Hv2.out, HBr.out⟩

/-- Are the first k zero? -/
def zeroTo (l : List Nat) : Nat → Bool
 | 0 => true
 | k + 1 => zeroTo l k && cf l k == 0
theorem zeroTo_iff (l : List Nat) : ∀ k, zeroTo l k = true ↔ ∀ j, j < k → cf l j = 0
 | 0 => by simp [zeroTo]
 | k + 1 => by
  unfold zeroTo
  rw [Bool.and_eq_true, zeroTo_iff l k, beq_iff_eq]
  constructor
  ·rintro ⟨h1, h2⟩ j hj
   rcases (by omega : j < k ∨ j = k) with h | rfl
   ·exact h1 j h
   ·exact h2
  ·intro h
   exact ⟨fun j hj => h j (by omega), h k (by omega)⟩
theorem zeroTo_synd (w : List Nat) : zeroTo (synd w) 8 = decide (synd w = List.replicate 8 0) := by
 rw [Bool.eq_iff_iff, decide_eq_true_eq, zeroTo_iff]
 constructor
 ·intro h
  exact cf_ext (by rw [synd_len, List.length_replicate]) fun i hi => by
   rw [synd_len] at hi
   rw [h i hi]
   unfold cf
   rw [List.getElem?_replicate, if_pos hi]
   rfl
 ·intro h j hj
  rw [h]
  unfold cf
  rw [List.getElem?_replicate, if_pos hj]
  rfl

set_option maxRecDepth 100000 in
set_option maxHeartbeats 8000000 in
theorem r7is_any (w : World) (s : ByteArray) (hs : s.size = 52) : Calls Tryz.prog 147 #[.string s, .int .i64 8] w fun e w' => e = .returned (.bool (decide (synd (bs s) = List.replicate 8 0))) ∧ Below w.heap.size w w' := by
 have HZ := Lib.hid (zeroTo_synd (bs s))
 have HS := Lib.hid (fun W => r7syn_any W s hs)
 have Hl := Lib.hid (synd_len (bs s))
 clear hs
 generalize synd (bs s) = L at *
 go_enter Tryz.func147, Tryz.ntmps147
 go_upto_region 2 with (go_at_call 143; refine (HS.out _).mono ?_; rintro e w1 ⟨v1, rfl, hv1, hb1⟩)
 have Hv := Lib.hid hv1
 obtain ⟨A, c, rfl, h1, h2, h3⟩ := hv1
 have HB1 := Lib.hid hb1
 rw [Hl.out] at h1 ⊢
 clear h3 hb1
 go_wp2
 go_loopw [7, 8] (fun b x wr => ∃ k : Nat, k ≤ 8 ∧ x = .int .i64 (k : Int) ∧ b = .bool (zeroTo L k) ∧ w1 = wr) (fun _ x _ => 8 - (intOf x).toNat)
 case atStart => exact ⟨0, by omega, rfl, rfl, rfl⟩
 case round =>
  obtain ⟨k, hk, rfl, rfl, rfl⟩ := hrel
  by_cases h : k < 8
  ·have hkI : (k : Int) < 8 := by omega
   have hLk : L[k]? = some (cf L k) := by unfold cf; rw [List.getElem?_eq_getElem (by rw [Hl.out]; exact h)]; rfl
   obtain ⟨b, o, rfl, hc⟩ := Hv.out.cell hLk
   have Hz : Hid (zeroTo L (k + 1) = (zeroTo L k && cf L k == 0)) := Lib.hid rfl
   clear hLk
   generalize zeroTo L k = z at *
   generalize cf L k = y at *
   cases z with
   | false =>
    go_wp2
    go_roundw
    case rel => exact ⟨k + 1, by omega, by go_num, by rw [Hz.out]; rfl, trivial⟩
    case measure => simp [intOf]; omega
   | true =>
    by_cases h0 : y = 0
    ·have h0I : ((y : Int) == 0) = true := by rw [h0]; rfl
     have Hz2 : Hid (zeroTo L (k + 1) = true) := Lib.hid (by rw [Hz.out, h0]; rfl)
     clear h0
     go_wp2
     go_roundw
     case rel => exact ⟨k + 1, by omega, by go_num, by rw [Hz2.out], trivial⟩
     case measure => simp [intOf]; omega
    ·have h0I : ((y : Int) == 0) = false := by simpa using fun e : (y : Int) = 0 => h0 (by omega)
     have Hz2 : Hid (zeroTo L (k + 1) = false) := Lib.hid (by rw [Hz.out]; simpa using h0)
     clear h0
     go_wp2
     go_roundw
     case rel => exact ⟨k + 1, by omega, by go_num, by rw [Hz2.out], trivial⟩
     case measure => simp [intOf]; omega
  ·obtain rfl : k = 8 := by omega
   rw [HZ.out]
   go_wp2
   go_ret
   exact ⟨rfl, HB1.out⟩

set_option maxRecDepth 100000 in
set_option maxHeartbeats 8000000 in
theorem r8power_any (w : World) (x n : Nat) (hx : x < 256) (hn : n ≤ 1000) : Calls Tryz.prog 209 #[.int .u8 (x : Int), .int .i64 (n : Int)] w fun e w' => e = .returned (.int .u8 (xp x n : Nat)) ∧ w = w' := by
 have Hm := Lib.hid (fun W k => r5mul_any W (xp x k) x (xp_lt hx k) hx)
 go_enter Tryz.func209, Tryz.ntmps209
 go_wp2
 go_loop [5, 6] (fun v i => ∃ k : Nat, k ≤ n ∧ i = .int .i64 (k : Int) ∧ v = .int .u8 (xp x k : Nat)) (fun _ i => n - (intOf i).toNat)
 case atStart => exact ⟨0, by omega, rfl, rfl⟩
 case round =>
  obtain ⟨k, hk, rfl, rfl⟩ := hrel
  by_cases h : k < n
  ·have hkI : (k : Int) < n := by omega
   go_wp2_with (go_at_call 206; refine (Hm.out _ k).mono ?_; rintro e w' ⟨rfl, rfl⟩)
   go_round
   case rel => exact ⟨k + 1, by omega, by go_num, rfl⟩
   case measure => simp [intOf]; omega
  ·obtain rfl : k = n := by omega
   go_wp2
   go_ret
   exact ⟨rfl, rfl⟩

theorem r8elem_any (w : World) (i n : Nat) (hi : i < n) (hn : n ≤ 255) : Calls Tryz.prog 205 #[.int .i64 (i : Int), .int .i64 (n : Int)] w fun e w' => e = .returned (.int .u8 (pw (n - 1 - i) : Nat)) ∧ w = w' := by
 have hs1 : IntKind.i64.wrap ((n : Int) - 1) = (n : Int) - 1 := IntWalk.i64_in _ (by omega)
 have hs2 : IntKind.i64.wrap ((n : Int) - 1 - i) = ((n - 1 - i : Nat) : Int) := by rw [IntKind.wrap_i64]; omega
 have He := Lib.hid (fun W => r5exp_any W ((n - 1 - i : Nat) : Int) (by omega))
 rw [gexp_pw (by omega)] at He
 go_enter Tryz.func205, Tryz.ntmps205
 go_wp2_with (go_at_call 235; refine (He.out _).mono ?_; rintro e w' ⟨rfl, rfl⟩)
 go_ret
 exact ⟨rfl, rfl⟩

theorem r8has_nil (w : World) (i : Nat) : Calls Tryz.prog 142 #[.slice none 0 0, .int .i64 (i : Int)] w fun e w' => e = .returned (.bool false) ∧ w = w' := by
 go_enter Tryz.func142, Tryz.ntmps142
 go_wp2
 go_loop [5] (fun x => x = .int .i64 0) (fun _ => 0)
 case atStart => rfl
 case round =>
  subst hrel
  go_wp2
  go_ret
  exact ⟨rfl, rfl⟩

set_option maxRecDepth 100000 in
set_option maxHeartbeats 8000000 in
theorem r8mod_nil (w : World) (v : Value) (l : List Nat) (n : Nat) (hv : BytesAt w v l) (hl : l.length = 8) : Calls Tryz.prog 144 #[v, .int .i64 (n : Int), .slice none 0 0] w fun e w' => ∃ v', e = .returned v' ∧ BytesAt w' v' l ∧ Below w.heap.size w w' := by
 have Hv := Lib.hid (SlAt.vAt (f := u8V) (hv.below ((Below.refl w.heap.size w).alloc (Nat.le_refl _) (.cells #[] 5))))
 have HK0 := Lib.hid (own_empty w 5 1)
 have h8 : (l.map u8V).length = 8 := by rw [List.length_map, hl]
 have h1 := one_u8s l
 have hle : w.heap.size ≤ (w.alloc (.cells #[] 5)).heap.size := by simp
 clear hv
 go_enter Tryz.func144, Tryz.ntmps144
 go_wp2_with (at_builtin; refine wpList_appendV _ Tryz.underlying100 Tryz.infoU8 rfl (by omega) rfl _ _ rfl w.heap.size _ 0 [] rfl _ rfl HK0.out _ Hv.out h1 (by omega) hle ?_; intro v1 w1 ho1 hg1 ha1 hb1)
 rw [List.nil_append] at ho1
 have Hv1 := Lib.hid (BytesAt.of_own ho1)
 have HB1 := Lib.hid (((Below.refl w.heap.size w).alloc (Nat.le_refl _) (.cells #[] 5)).trans hb1)
 clear ho1 hg1 ha1 hb1
 go_loopw [17] (fun x wr => x = .int .i64 0 ∧ w1 = wr) (fun _ _ => 0)
 case atStart => exact ⟨rfl, rfl⟩
 case round =>
  obtain ⟨rfl, rfl⟩ := hrel
  go_wp2
  go_ret
  exact ⟨_, rfl, Hv1.out, HB1.out⟩

set_option maxRecDepth 100000 in
set_option maxHeartbeats 8000000 in
theorem r8loc_any (w : World) (a b : ByteArray) (hl : b.size = a.size) (ha : a.size ≤ 1000) : Calls Tryz.prog 148 #[.string a, .string b] w fun e w' => ∃ A c, e = .returned (.tuple #[.slice A (differ (bs a) (bs b)).length c, .int .i64 0]) ∧ Below w.heap.size w w' := by
 have hlI : (b.size : Int) = a.size := by omega
 have HD : Hid (differTo (bs a) (bs b) a.size = differ (bs a) (bs b)) := Lib.hid (by unfold differTo differ; rw [bs_len])
 go_enter Tryz.func148, Tryz.ntmps148
 go_wp2
 go_loopw [6, 7] (fun v x wr => ∃ k : Nat, k ≤ a.size ∧ x = .int .i64 (k : Int) ∧ wr.ownsRow w.heap.size 3 1 v (differTo (bs a) (bs b) k).length ((differTo (bs a) (bs b) k).map natV) ∧ Below w.heap.size w wr) (fun _ x _ => a.size - (intOf x).toNat)
 case atStart => exact ⟨0, by omega, rfl, World.ownsRow_nil _ _ _ _, Below.refl _ _⟩
 case round =>
  obtain ⟨k, hk, rfl, ho, hB⟩ := hrel
  have Ho := Lib.hid ho
  have HBr := Lib.hid hB
  have hBz := hB.size
  clear ho hB
  by_cases h : k < a.size
  ·have hkI : (k : Int) < a.size := by omega
   have hkb : k < b.size := by omega
   have hkbI : (k : Int) < b.size := by omega
   have e1 := bsc a k h
   have e2 := bsc b k hkb
   have hst : differTo (bs a) (bs b) (k + 1) = differTo (bs a) (bs b) k ++ if cf (bs a) k != cf (bs b) k then [k] else [] := by
    unfold differTo
    rw [List.range_succ, List.filter_append, List.filter_cons, List.filter_nil]
   have hln : (differTo (bs a) (bs b) k).length ≤ 900000 := by
    unfold differTo
    refine Nat.le_trans (List.length_filter_le _ _) ?_
    rw [List.length_range]
    omega
   have Hst := Lib.hid hst
   have E1 := Lib.hid e1
   have E2 := Lib.hid e2
   clear hst e1 e2
   generalize differTo (bs a) (bs b) k = D at *
   by_cases hc : (a[k]'h).toNat = (b[k]'hkb).toNat
   ·have hcI : (((a[k]'h).toNat : Int) != ((b[k]'hkb).toNat : Int)) = false := by rw [bne_eq_false_iff_eq]; omega
    have Hd : Hid (differTo (bs a) (bs b) (k + 1) = D) := Lib.hid (by rw [Hst.out, E1.out, E2.out, hc]; simp)
    clear hc
    go_wp2
    go_quiet (fail)
    go_wp2
    go_roundw
    case rel =>
     refine ⟨k + 1, by omega, by go_num, ?_, below_drewN HBr.out nq⟩
     rw [Hd.out]
     exact own_below8 Ho.out (below_drewN (Below.refl _ _) nq)
    case measure => simp [intOf]; omega
   ·have hcI : (((a[k]'h).toNat : Int) != ((b[k]'hkb).toNat : Int)) = true := by rw [bne_iff_ne]; omega
    have Hd : Hid (differTo (bs a) (bs b) (k + 1) = D ++ [k]) := Lib.hid (by rw [Hst.out, E1.out, E2.out, if_pos (by rw [bne_iff_ne]; exact hc)])
    clear hc
    go_wp2
    go_quiet (fail)
    have Ho2 := Lib.hid (own_below8 Ho.out (below_drewN (Below.refl _ _) nq))
    have HB2 := Lib.hid (below_drewN HBr.out nq)
    have hBz2 := HB2.out.size
    clear Ho HBr hBz
    generalize wr.drewN nq = wd at *
    go_wp2_with (at_builtin; refine wpList_appOne Tryz.underlying70 Tryz.infoInt rfl (by omega) rfl _ _ rfl rfl rfl rfl Ho2.out hln hBz2 ?_; intro v1 w1 ho1 hb1)
    go_roundw
    case rel =>
     refine ⟨k + 1, by omega, by go_num, ?_, HB2.out.trans hb1⟩
     rw [Hd.out, List.length_append, List.map_append]
     exact ho1
    case measure => simp [intOf]; omega
  ·obtain rfl : k = a.size := by omega
   have ho := Ho.out
   rw [HD.out] at ho
   obtain ⟨A, c, rfl, j1, j2, j3⟩ := SlAt.of_own ho
   clear j3 ho Ho
   go_wp2
   go_ret2
   exact ⟨_, _, rfl, HBr.out⟩

end Go.Proofs.YtnlnmfkmbpihhaaGreatDoor

namespace Go.Proofs.YtnlnmfkmbpihhaaGreatDoor
open Go.RowKit

theorem gRun_none {R : List (List Nat)} : ∀ {i n : Nat}, i ≤ n → gRun R i = none → gRun R n = none
 | i, 0, h, e => by
  obtain rfl : i = 0 := by omega
  exact e
 | i, n + 1, h, e => by
  by_cases hi : i = n + 1
  ·rw [← hi]; exact e
  ·have := gRun_none (R := R) (i := i) (n := n) (by omega) e
   unfold gRun
   rw [this]
   rfl
theorem gauss_none1 {R R' : List (List Nat)} {i n : Nat} (hi : i < n) (h : gRun R i = some R') (hp : R'.length ≤ pivAt R' i i) : gaussR R n = none := by
 have h1 : gRun R (i + 1) = none := by
  unfold gRun
  rw [h]
  show gStep R' i = none
  unfold gStep
  rw [if_neg (by omega)]
 unfold gaussR
 rw [gRun_none (by omega) h1]
theorem gauss_none2 {R R' : List (List Nat)} {n : Nat} (h : gRun R n = some R') (hp : gRest R' n n = false) : gaussR R n = none := by
 unfold gaussR
 rw [h]
 dsimp only
 rw [hp]
 rfl
theorem gauss_some {R R' : List (List Nat)} {n : Nat} (h : gRun R n = some R') (hp : gRest R' n n = true) : gaussR R n = some ((List.range n).map fun i => cf (rowOf R' i) n) := by
 unfold gaussR
 rw [h]
 dsimp only
 rw [hp]
 rfl
theorem piv_here {R : List (List Nat)} {i a : Nat} (ha : a < R.length) (h : cf (rowOf R a) i ≠ 0) : pivAt R i a = a := by rw [pivAt, if_pos ha, if_neg h]
theorem piv_next {R : List (List Nat)} {i a : Nat} (ha : a < R.length) (h : cf (rowOf R a) i = 0) : pivAt R i a = pivAt R i (a + 1) := by
 conv => lhs; rw [pivAt]
 rw [if_pos ha, if_pos h]
theorem piv_end {R : List (List Nat)} {i a : Nat} (ha : R.length ≤ a) : pivAt R i a = a := by rw [pivAt, if_neg (by omega)]
theorem rest_next {R : List (List Nat)} {n a : Nat} (ha : a < R.length) (h : cf (rowOf R a) n = 0) : gRest R n a = gRest R n (a + 1) := by
 conv => lhs; rw [gRest]
 rw [if_pos ha, if_pos h]
theorem rest_no {R : List (List Nat)} {n a : Nat} (ha : a < R.length) (h : cf (rowOf R a) n ≠ 0) : gRest R n a = false := by rw [gRest, if_pos ha, if_neg h]
theorem rest_end {R : List (List Nat)} {n a : Nat} (ha : R.length ≤ a) : gRest R n a = true := by rw [gRest, if_neg (by omega)]
theorem gStep_some {R : List (List Nat)} {i m : Nat} (hl : R.length = m) (h : pivAt R i i < m) : gStep R i = some (elimAll (scaled (swapR R i (pivAt R i i)) i) i m) := by
 unfold gStep
 rw [hl, if_pos h]
theorem elim_skip {R : List (List Nat)} {i j : Nat} (h : j = i ∨ cf (rowOf (elimAll R i j) j) i = 0) : elimAll R i (j + 1) = elimAll R i j := by
 conv => lhs; unfold elimAll
 rw [if_pos h]
theorem elim_do {R : List (List Nat)} {i j : Nat} (h1 : j ≠ i) (h2 : cf (rowOf (elimAll R i j) j) i ≠ 0) : (elimAll R i j).set j (elimR (cf (rowOf (elimAll R i j) j) i) (rowOf (elimAll R i j) j) (rowOf (elimAll R i j) i)) = elimAll R i (j + 1) := by
 conv => rhs; unfold elimAll
 rw [if_neg (by rintro (h | h); exact h1 h; exact h2 h)]
def GaussP (O : Option (List Nat)) (v f : Value) (w : World) : Prop := match O with
 | none => f = .bool false
 | some y => f = .bool true ∧ BytesAt w v y
theorem MatM.swap1 {W : World} {B g m n : Nat} {p c : Nat → Nat} {R : List (List Nat)} (h : MatM W B g m n p c R) {i a : Nat} (hi : i < m) (ha : a < m) :
  (W.setCell ⟨g, i, none⟩ (.slice (some ⟨p a, 0, none⟩) (n + 1) (c a))).cell? ⟨g, a, none⟩ = some (.slice (some ⟨p a, 0, none⟩) (n + 1) (c a)) ∧ (W.setCell ⟨g, i, none⟩ (.slice (some ⟨p a, 0, none⟩) (n + 1) (c a))).frozen? ⟨g, a, none⟩ = false := by
 refine ⟨?_, by rw [World.frozen?_setCell]; exact (h.ptr a ha).2⟩
 by_cases e : i = a
 ·subst e
  exact World.cell?_setCell_same' _ _ _ (by rw [(h.ptr i hi).1]; rfl)
 ·rw [World.cell?_setCell_other _ _ _ _ (fun e2 => e (by injection e2))]
  exact (h.ptr a ha).1
/-- The rows' memory alone has turned. -/
theorem MatM.set_scale {W : World} {B g m n : Nat} {p c : Nat → Nat} {R : List (List Nat)} {i b k : Nat} (h : MatM W B g m n p c (R.set i (scaleK (rowOf R i) b k))) (hR : Mat R m n) (hi : i < m) (hk : k ≤ n) :
  W.cell? ⟨p i, k, none⟩ = some (.int .u8 ((cf (rowOf R i) k : Nat) : Int)) ∧ W.frozen? ⟨p i, k, none⟩ = false ∧ MatM (W.setCell ⟨p i, k, none⟩ (.int .u8 ((gmul (cf (rowOf R i) k) b : Nat) : Int))) B g m n p c (R.set i (scaleK (rowOf R i) b (k + 1))) := by
 have hl := (hR.row i hi).1
 have hg := h.get hi hk
 have hs := h.set hi k (gmul (cf (rowOf R i) k) b)
 have hk1 : cf (scaleK (rowOf R i) b k) k = cf (rowOf R i) k := by rw [scaleK_cf _ _ _ (by omega), if_neg (Nat.lt_irrefl _)]
 have hst := scaleK_step (rowOf R i) b k (by omega)
 rw [hk1] at hst
 rw [rowOf_set (by rw [hR.len]; exact hi), if_pos rfl] at hg hs
 rw [hk1] at hg
 rw [list_set_set, hst] at hs
 exact ⟨hg.1, hg.2, hs⟩
theorem MatM.set_elim {W : World} {B g m n : Nat} {p c : Nat → Nat} {R : List (List Nat)} {i j d k : Nat} (h : MatM W B g m n p c (R.set j (elimK d (rowOf R j) (rowOf R i) k))) (hR : Mat R m n) (hi : i < m) (hj : j < m) (hij : j ≠ i) (hk : k ≤ n) :
  W.cell? ⟨p j, k, none⟩ = some (.int .u8 ((cf (rowOf R j) k : Nat) : Int)) ∧ W.frozen? ⟨p j, k, none⟩ = false ∧ W.cell? ⟨p i, k, none⟩ = some (.int .u8 ((cf (rowOf R i) k : Nat) : Int)) ∧
   MatM (W.setCell ⟨p j, k, none⟩ (.int .u8 ((cf (rowOf R j) k ^^^ gmul d (cf (rowOf R i) k) : Nat) : Int))) B g m n p c (R.set j (elimK d (rowOf R j) (rowOf R i) (k + 1))) := by
 have hl := (hR.row j hj).1
 have hg := h.get hj hk
 have hg2 := h.get hi hk
 have hs := h.set hj k (cf (rowOf R j) k ^^^ gmul d (cf (rowOf R i) k))
 have hk1 : cf (elimK d (rowOf R j) (rowOf R i) k) k = cf (rowOf R j) k := by rw [elimK_cf _ _ _ _ (by omega), if_neg (Nat.lt_irrefl _)]
 have hst := elimK_step d (rowOf R j) (rowOf R i) k (by omega)
 rw [hk1] at hst
 rw [rowOf_set (by rw [hR.len]; exact hj), if_pos rfl] at hg hs
 rw [rowOf_set (by rw [hR.len]; exact hj), if_neg hij] at hg2
 rw [hk1] at hg
 rw [list_set_set, hst] at hs
 exact ⟨hg.1, hg.2, hg2.1, hs⟩
def gaussY (R : List (List Nat)) (n : Nat) : List Nat := (List.range n).map fun i => cf (rowOf R i) n

set_option maxRecDepth 100000 in
set_option maxHeartbeats 16000000 in
theorem rgauss_any (w : World) (B g m n l : Nat) (p c : Nat → Nat) (R : List (List Nat)) (hM : MatM w B g m n p c R) (hR : Mat R m n) (hnm : n ≤ m) (hm : m ≤ 100) :
  Calls Tryz.prog 207 #[.slice (some ⟨g, 0, none⟩) m l, .int .i64 (n : Int)] w fun e w' => ∃ v f, e = .returned (.tuple #[v, f]) ∧ GaussP (gaussR R n) v f w' ∧ Below B w w' := by
 obtain ⟨O, hO⟩ : ∃ O, gaussR R n = O := ⟨_, rfl⟩
 rw [hO]
 have HO1 : Hid (∀ i R', i < n → gRun R i = some R' → R'.length ≤ pivAt R' i i → O = none) := Lib.hid (fun i R' hi h hp => by rw [← hO]; exact gauss_none1 hi h hp)
 have HO2 : Hid (∀ R', gRun R n = some R' → gRest R' n n = false → O = none) := Lib.hid (fun R' h hp => by rw [← hO]; exact gauss_none2 h hp)
 have HO3 : Hid (∀ R', gRun R n = some R' → gRest R' n n = true → O = some (gaussY R' n)) := Lib.hid (fun R' h hp => by rw [← hO]; exact gauss_some h hp)
 have HM0 := Lib.hid hM
 have HR0 := Lib.hid hR
 have hsn : (n : Int) ≤ 100 := by omega
 have hsm : (m : Int) ≤ 100 := by omega
 clear hO hM hR
 go_enter Tryz.func207, Tryz.ntmps207
 go_wp2
 go_loopw [6] (fun x wr => ∃ (i : Nat) (p c : Nat → Nat) (R' : List (List Nat)), i ≤ n ∧ x = .int .i64 (i : Int) ∧ gRun R i = some R' ∧ MatM wr B g m n p c R' ∧ Mat R' m n ∧ Below B w wr) (fun x _ => n - (intOf x).toNat)
 case atStart => exact ⟨0, p, c, R, by omega, rfl, rfl, HM0.out, HR0.out, Below.refl _ _⟩
 case round =>
  obtain ⟨i, p, c, R', hi, rfl, hrun, hM, hR', hB⟩ := hrel
  obtain ⟨wo, rfl⟩ : ∃ x, x = wr := ⟨_, rfl⟩
  clear HM0 HR0
  have Hrun := Lib.hid hrun
  have HM := Lib.hid hM
  have HR := Lib.hid hR'
  have HBo := Lib.hid hB
  clear hrun hM hR' hB
  by_cases h : i < n
  ·have hiI : (i : Int) < n := by omega
   have hin1 : (i : Int) < (n : Int) + 1 := by omega
   have him : i < m := by omega
   have himI : (i : Int) < m := by omega
   go_wp2
   go_loopw [7] (fun x wx => ∃ a : Nat, i ≤ a ∧ a ≤ m ∧ x = .int .i64 (a : Int) ∧ pivAt R' i i = pivAt R' i a ∧ wo = wx) (fun x _ => m - (intOf x).toNat)
   case atStart => exact ⟨i, Nat.le_refl _, by omega, rfl, rfl, rfl⟩
   case round =>
    obtain ⟨a, hia, ham, rfl, hpiv, rfl⟩ := hrel
    have Hpiv := Lib.hid hpiv
    clear hpiv
    by_cases ha : a < m
    ·have haI : (a : Int) < m := by omega
     have haD : decide ((a : Int) < (m : Int)) = true := by simpa using ha
     have haN : ¬ (m : Int) ≤ a := by omega
     have hpa := (HM.out.ptr a ha).1
     have hga := (HM.out.get ha (k := i) (by omega)).1
     have hya : cf (rowOf R' a) i = 0 → pivAt R' i a = pivAt R' i (a + 1) := fun h0 => piv_next (by rw [HR.out.len]; exact ha) h0
     have hyn : cf (rowOf R' a) i ≠ 0 → pivAt R' i a = a := fun h0 => piv_here (by rw [HR.out.len]; exact ha) h0
     have Hya := Lib.hid hya
     have Hyn := Lib.hid hyn
     have Hga : Hid (cf (rowOf R' a) i < 256) := Lib.hid (cf_lt (HR.out.bytes a) i)
     clear hya hyn
     obtain ⟨y, hy⟩ : ∃ y, cf (rowOf R' a) i = y := ⟨_, rfl⟩
     rw [hy] at hga Hya Hyn
     by_cases h0 : y = 0
     ·have h0I : ((y : Int) == 0) = true := by rw [h0]; rfl
      have Hnx := Lib.hid (Hpiv.out.trans (Hya.out h0))
      clear h0 hy Hya Hyn Hpiv
      go_wp2
      go_roundw
      case rel => exact ⟨a + 1, by omega, by omega, by go_num, Hnx.out, trivial⟩
      case measure => simp [intOf]; omega
     ·have h0I : ((y : Int) == 0) = false := by simpa using fun e : (y : Int) = 0 => h0 (by omega)
      have hpv : pivAt R' i i = a := Hpiv.out.trans (Hyn.out h0)
      have HS := Lib.hid (gStep_some (i := i) HR.out.len (by rw [hpv]; exact ha))
      rw [hpv] at HS
      have hsw := HM.out.swap1 him ha
      have Hsw := Lib.hid hsw
      have hpi := (HM.out.ptr i him).1
      have hfi := (HM.out.ptr i him).2
      have HM2 := Lib.hid (HM.out.swap him ha)
      have HR2 := Lib.hid (HR.out.swap him ha)
      have hne2 : cf (rowOf (swapR R' i a) i) i ≠ 0 := by
       rw [swap_row (by rw [HR.out.len]; exact him) (by rw [HR.out.len]; exact ha)]
       split
       ·next e =>
        have hy2 := hy
        rw [e] at hy2
        rw [hy2]
        exact h0
       ·rw [if_pos rfl, hy]; exact h0
      have Hne2 := Lib.hid hne2
      have HB2 := Lib.hid ((HBo.out.setCell (p := ⟨g, i, none⟩) HM.out.own (.slice (some ⟨p a, 0, none⟩) (n + 1) (c a))).setCell (p := ⟨g, a, none⟩) HM.out.own (.slice (some ⟨p i, 0, none⟩) (n + 1) (c i)))
      have HSz : Hid ((List.length R') = m) := Lib.hid HR.out.len
      clear h0 hy Hya Hyn Hpiv hpv hsw hne2 Hga
      go_upto_region 11 with fail
      obtain ⟨hc2, hf2⟩ := Hsw.out
      clear hpa hpi hfi hga Hsw HM HBo
      go_upto_region 12 with fail
      clear hc2 hf2
      generalize (wo.setCell ⟨g, i, none⟩ (.slice (some ⟨p a, 0, none⟩) (n + 1) (c a))).setCell ⟨g, a, none⟩ (.slice (some ⟨p i, 0, none⟩) (n + 1) (c i)) = w2 at *
      obtain ⟨pp, hpp⟩ : ∃ pp, (fun j => if a = j then p i else if i = j then p a else p j) = pp := ⟨_, rfl⟩
      obtain ⟨cc, hcc⟩ : ∃ cc, (fun j => if a = j then c i else if i = j then c a else c j) = cc := ⟨_, rfl⟩
      rw [hpp, hcc] at HM2
      clear hpp hcc
      generalize swapR R' i a = R2 at *
      have hy2 : cf (rowOf R2 i) i < 256 := cf_lt (HR2.out.bytes i) i
      have HI := Lib.hid (fun W => r5inv_any W (cf (rowOf R2 i) i) hy2)
      have hgi : ginvR (cf (rowOf R2 i) i) = .tuple #[.int .u8 (ginv (cf (rowOf R2 i) i) : Nat), .bool true] := by unfold ginvR; rw [if_neg Hne2.out]
      rw [hgi] at HI
      have hbl : ginv (cf (rowOf R2 i) i) < 256 := ginv_lt hy2
      have hpi := (HM2.out.ptr i him).1
      have hgi2 := (HM2.out.get him (k := i) (by omega)).1
      have HSc : Hid (R2.set i (scaleR (rowOf R2 i) (ginv (cf (rowOf R2 i) i))) = scaled R2 i) := Lib.hid rfl
      have HM3 : Hid (MatM w2 B g m n pp cc (R2.set i (scaleK (rowOf R2 i) (ginv (cf (rowOf R2 i) i)) 0))) := Lib.hid (by
       rw [scaleK_zero, set_row (by rw [HR2.out.len]; exact him)]
       exact HM2.out)
      clear hgi hy2 Hne2 HM2
      generalize ginv (cf (rowOf R2 i) i) = b at *
      generalize cf (rowOf R2 i) i = y2 at *
      go_wp2_with (go_at_call 208; refine (HI.out _).mono ?_; rintro e w' ⟨rfl, rfl⟩)
      clear hpi hgi2 HI
      go_loopw [11] (fun x wx => ∃ k : Nat, k ≤ n + 1 ∧ x = .int .i64 (k : Int) ∧ MatM wx B g m n pp cc (R2.set i (scaleK (rowOf R2 i) b k)) ∧ Below B w wx) (fun x _ => n + 1 - (intOf x).toNat)
      case atStart => exact ⟨0, by omega, rfl, HM3.out, HB2.out⟩
      case round =>
       obtain ⟨k, hk, rfl, hM, hB⟩ := hrel
       clear HM3 HB2
       have HMk := Lib.hid hM
       have HBk := Lib.hid hB
       clear hM hB
       by_cases hkn : k ≤ n
       ·have hkI : (k : Int) ≤ n := by omega
        have hkI2 : (k : Int) < (n : Int) + 1 := by omega
        obtain ⟨hc1, hf1, hs1⟩ := HMk.out.set_scale HR2.out him hkn
        have hpi := (HMk.out.ptr i him).1
        have Hs1 := Lib.hid hs1
        have HBs := Lib.hid (HBk.out.setCell (p := ⟨pp i, k, none⟩) (HMk.out.far i him).2 (.int .u8 ((gmul (cf (rowOf R2 i) k) b : Nat) : Int)))
        have Hmu := Lib.hid (fun W => r5mul_any W (cf (rowOf R2 i) k) b (cf_lt (HR2.out.bytes i) k) hbl)
        clear hs1
        generalize gmul (cf (rowOf R2 i) k) b = z at *
        generalize cf (rowOf R2 i) k = y3 at *
        go_wp2
        go_still_tail 15, (by kernel_rfl)
        still_call (still_of (Hmu.out _))
        repeat still_step
        refine wpStill_nil ?_
        go_wp2
        clear hc1 hf1 hpi
        go_roundw
        case rel => exact ⟨k + 1, by omega, by go_num, Hs1.out.drew, HBs.out.drew⟩
        case measure => simp [intOf]; omega
       ·obtain rfl : k = n + 1 := by omega
        have hkI : ¬ ((n + 1 : Nat) : Int) ≤ n := by omega
        have hM4 := HMk.out
        rw [scaleK_all (rowOf R2 i) b (by rw [(HR2.out.row i him).1]; exact Nat.le_refl _), HSc.out] at hM4
        have HM4 := Lib.hid hM4
        have HR4 := Lib.hid (HR2.out.scaled him)
        clear hM4 HMk HSc
        generalize scaled R2 i = R4 at *
        go_wp2
        go_loopw [12] (fun x wx => ∃ j : Nat, j ≤ m ∧ x = .int .i64 (j : Int) ∧ MatM wx B g m n pp cc (elimAll R4 i j) ∧ Below B w wx) (fun x _ => m - (intOf x).toNat)
        case atStart => exact ⟨0, by omega, rfl, HM4.out, HBk.out⟩
        case round =>
         obtain ⟨j, hj, rfl, hM, hB⟩ := hrel
         obtain ⟨wj, rfl⟩ : ∃ x, x = wr := ⟨_, rfl⟩
         clear HM4 HBk
         have HMj := Lib.hid hM
         have HBj := Lib.hid hB
         clear hM hB
         by_cases hjm : j < m
         ·have hjI : (j : Int) < m := by omega
          have hpj := (HMj.out.ptr j hjm).1
          have hgj := (HMj.out.get hjm (k := i) (by omega)).1
          have HRj := Lib.hid (HR4.out.elim i j (by omega))
          have hdl : cf (rowOf (elimAll R4 i j) j) i < 256 := cf_lt (HRj.out.bytes j) i
          have hsk := fun h => elim_skip (R := R4) (i := i) (j := j) h
          have hdo := fun h1 h2 => elim_do (R := R4) (i := i) (j := j) h1 h2
          have Hsk := Lib.hid hsk
          have Hdo := Lib.hid hdo
          clear hsk hdo
          obtain ⟨d, hd⟩ : ∃ d, cf (rowOf (elimAll R4 i j) j) i = d := ⟨_, rfl⟩
          rw [hd] at hgj hdl Hsk Hdo
          clear hd
          by_cases hji : j = i
          ·have hjiI : ((j : Int) == (i : Int)) = true := by rw [hji]; simp
           have Hnx := Lib.hid (Hsk.out (.inl hji))
           clear hji Hsk Hdo
           go_wp2
           go_roundw
           case rel => exact ⟨j + 1, by omega, by go_num, by rw [Hnx.out]; exact HMj.out, HBj.out⟩
           case measure => simp [intOf]; omega
          ·have hjiI : ((j : Int) == (i : Int)) = false := by simp; omega
           by_cases hd0 : d = 0
           ·have hd0I : ((d : Int) == 0) = true := by rw [hd0]; rfl
            have Hnx := Lib.hid (Hsk.out (.inr hd0))
            clear hd0 Hsk Hdo
            go_wp2
            go_roundw
            case rel => exact ⟨j + 1, by omega, by go_num, by rw [Hnx.out]; exact HMj.out, HBj.out⟩
            case measure => simp [intOf]; omega
           ·have hd0I : ((d : Int) == 0) = false := by simpa using fun e : (d : Int) = 0 => hd0 (by omega)
            have Hnx := Lib.hid (Hdo.out hji hd0)
            clear hd0 Hsk Hdo
            have HM5 : Hid (MatM wj B g m n pp cc ((elimAll R4 i j).set j (elimK d (rowOf (elimAll R4 i j) j) (rowOf (elimAll R4 i j) i) 0))) := Lib.hid (by
             rw [elimK_zero, set_row (by rw [HRj.out.len]; exact hjm)]
             exact HMj.out)
            obtain ⟨R5, hR5⟩ : ∃ R5, elimAll R4 i j = R5 := ⟨_, rfl⟩
            rw [hR5] at HM5 HRj Hnx
            clear hR5 HMj
            go_wp2
            clear hpj hgj
            go_loopw [14] (fun x wx => ∃ k : Nat, k ≤ n + 1 ∧ x = .int .i64 (k : Int) ∧ MatM wx B g m n pp cc (R5.set j (elimK d (rowOf R5 j) (rowOf R5 i) k)) ∧ Below B w wx) (fun x _ => n + 1 - (intOf x).toNat)
            case atStart => exact ⟨0, by omega, rfl, HM5.out, HBj.out⟩
            case round =>
             obtain ⟨k, hk, rfl, hM, hB⟩ := hrel
             clear HM5 HBj
             have HMk := Lib.hid hM
             have HBk := Lib.hid hB
             clear hM hB
             by_cases hkn : k ≤ n
             ·have hkI : (k : Int) ≤ n := by omega
              have hkI2 : (k : Int) < (n : Int) + 1 := by omega
              obtain ⟨hc1, hf1, hc2, hs1⟩ := HMk.out.set_elim HRj.out him hjm hji hkn
              have hpi := (HMk.out.ptr i him).1
              have hpj := (HMk.out.ptr j hjm).1
              have Hs1 := Lib.hid hs1
              have HBs := Lib.hid (HBk.out.setCell (p := ⟨pp j, k, none⟩) (HMk.out.far j hjm).2 (.int .u8 ((cf (rowOf R5 j) k ^^^ gmul d (cf (rowOf R5 i) k) : Nat) : Int)))
              have hyb := cf_lt (HRj.out.bytes i) k
              have Hmu := Lib.hid (fun W => r5mul_any W d (cf (rowOf R5 i) k) hdl hyb)
              have hxx := u8_xor (cf_lt (HRj.out.bytes j) k) (gmul_lt (cf (rowOf R5 i) k) hdl)
              clear hs1 hyb
              generalize gmul d (cf (rowOf R5 i) k) = z at *
              generalize cf (rowOf R5 i) k = y3 at *
              generalize cf (rowOf R5 j) k = y4 at *
              go_wp2
              go_still_tail 23, (by kernel_rfl)
              still_call (still_of (Hmu.out _))
              repeat still_step
              refine wpStill_nil ?_
              go_wp2
              clear hc1 hf1 hc2 hpi hpj hxx
              go_roundw
              case rel => exact ⟨k + 1, by omega, by go_num, Hs1.out.drew, HBs.out.drew⟩
              case measure => simp [intOf]; omega
             ·obtain rfl : k = n + 1 := by omega
              have hkI : ¬ ((n + 1 : Nat) : Int) ≤ n := by omega
              have hM6 := HMk.out
              rw [elimK_all d (rowOf R5 j) (rowOf R5 i) (by rw [(HRj.out.row j hjm).1]; exact Nat.le_refl _), Hnx.out] at hM6
              have HM6 := Lib.hid hM6
              clear hM6 HMk
              go_wp2
              go_roundw
              case rel => exact ⟨j + 1, by omega, by go_num, HM6.out, HBk.out⟩
              case measure => simp [intOf]; omega
         ·obtain rfl : j = m := by omega
          have hjI : ¬ (j : Int) < j := by omega
          have hrun2 : gRun R (i + 1) = some (elimAll R4 i j) := by
           show (gRun R i).bind (fun R => gStep R i) = _
           rw [Hrun.out]
           exact HS.out
          have HR5 := Lib.hid (HR4.out.elim i j (Nat.le_refl _))
          have Hrun2 := Lib.hid hrun2
          clear hrun2
          go_wp2
          go_roundw
          case rel => exact ⟨i + 1, pp, cc, _, by omega, by go_num, Hrun2.out, HMj.out, HR5.out, HBj.out⟩
          case measure => simp [intOf]; omega
    ·have haN : (m : Int) ≤ a := by omega
     have haD : decide ((a : Int) < (m : Int)) = false := by simp; omega
     have hO := HO1.out i R' h Hrun.out (by rw [HR.out.len, Hpiv.out, piv_end (by rw [HR.out.len]; omega)]; omega)
     have HOn := Lib.hid hO
     clear hO
     go_wp2
     go_ret2
     exact ⟨_, _, rfl, by rw [HOn.out]; rfl, HBo.out⟩
  ·obtain rfl : i = n := by omega
   have hiI : ¬ (i : Int) < i := by omega
   have hyl : (gaussY R' i).length = i := by unfold gaussY; rw [List.length_map, List.length_range]
   have HYs : Hid (∀ k, k < i → (gaussY R' i).take k ++ [cf (rowOf R' k) i] = (gaussY R' i).take (k + 1)) := Lib.hid (fun k hk => map_take_step (fun k => cf (rowOf R' k) i) hk)
   have hO2 := HO2.out R' Hrun.out
   have hO3 := HO3.out R' Hrun.out
   have HOO := Lib.hid (And.intro hO2 hO3)
   obtain ⟨Y, hY⟩ : ∃ Y, gaussY R' i = Y := ⟨_, rfl⟩
   rw [hY] at HYs HOO hyl
   have Hyl := Lib.hid hyl
   clear hO2 hO3 hY hyl
   go_wp2
   go_loopw [15, 16] (fun v x wx => ∃ k : Nat, k ≤ i ∧ x = .int .i64 (k : Int) ∧ wx.ownsRow wo.heap.size 5 1 v k ((Y.take k).map u8V) ∧ Below wo.heap.size wo wx) (fun _ x _ => i - (intOf x).toNat)
   case atStart => exact ⟨0, by omega, rfl, World.ownsRow_nil _ _ _ _, Below.refl _ _⟩
   case round =>
    obtain ⟨k, hk, rfl, ho, hB⟩ := hrel
    have Ho := Lib.hid ho
    have HBk := Lib.hid hB
    have hBz := hB.size
    clear ho hB
    by_cases hki : k < i
    ·have hkI : (k : Int) < i := by omega
     have hkm : (k : Int) < m := by omega
     have hii : (i : Int) < (i : Int) + 1 := by omega
     have hk9 : k ≤ 900000 := by omega
     have hMk := HM.out.below HBk.out
     have hpk := (hMk.ptr k (by omega)).1
     have hgk := (hMk.get (j := k) (by omega) (k := i) (Nat.le_refl _)).1
     have Hst := Lib.hid (HYs.out k hki)
     clear hMk
     generalize cf (rowOf R' k) i = y at *
     go_wp2_with (at_builtin; refine wpList_app1 rfl _ _ rfl rfl rfl Ho.out hk9 hBz ?_; intro v1 w3 ho1 hb1)
     go_roundw
     case rel =>
      refine ⟨k + 1, by omega, by go_num, ?_, HBk.out.trans hb1⟩
      rw [← Hst.out]
      exact ho1
     case measure => simp [intOf]; omega
    ·obtain rfl : k = i := by omega
     obtain ⟨wy, rfl⟩ : ∃ x, x = wr := ⟨_, rfl⟩
     have ho := Ho.out
     rw [List.take_of_length_le (by rw [Hyl.out]; exact Nat.le_refl _)] at ho
     have Hv := Lib.hid (BytesAt.of_own ho)
     obtain ⟨A, cv, rfl, h1, h2, h3⟩ := BytesAt.of_own ho
     have HMy := Lib.hid (HM.out.below HBk.out)
     have HBy := Lib.hid (HBo.out.trans (HBk.out.mono (Nat.le_trans HM.out.own (Nat.le_of_lt HM.out.lt))))
     rw [Hyl.out] at Hv h1 ⊢
     clear h3 ho Ho HM HBk HBo HYs
     go_wp2
     go_loopw [17] (fun x wx => ∃ a : Nat, k ≤ a ∧ a ≤ m ∧ x = .int .i64 (a : Int) ∧ gRest R' k k = gRest R' k a ∧ wy = wx) (fun x _ => m - (intOf x).toNat)
     case atStart => exact ⟨k, Nat.le_refl _, by omega, rfl, rfl, rfl⟩
     case round =>
      obtain ⟨a, hka, ham, rfl, hrest, rfl⟩ := hrel
      have Hrest := Lib.hid hrest
      clear hrest
      by_cases ha : a < m
      ·have haI : (a : Int) < m := by omega
       have hii : (k : Int) < (k : Int) + 1 := by omega
       have hpa := (HMy.out.ptr a ha).1
       have hga := (HMy.out.get ha (k := k) (Nat.le_refl _)).1
       have Hyes := Lib.hid (fun h0 => rest_next (R := R') (n := k) (a := a) (by rw [HR.out.len]; exact ha) h0)
       have Hno := Lib.hid (fun h0 => rest_no (R := R') (n := k) (a := a) (by rw [HR.out.len]; exact ha) h0)
       generalize cf (rowOf R' a) k = y at *
       by_cases h0 : y = 0
       ·have h0I : ((y : Int) != 0) = false := by rw [h0]; rfl
        have Hnx := Lib.hid (Hrest.out.trans (Hyes.out h0))
        clear h0 Hyes Hno
        go_wp2
        go_roundw
        case rel => exact ⟨a + 1, by omega, by omega, by go_num, Hnx.out, trivial⟩
        case measure => simp [intOf]; omega
       ·have h0I : ((y : Int) != 0) = true := by simpa using fun e : (y : Int) = 0 => h0 (by omega)
        have HOn := Lib.hid (HOO.out.1 (Hrest.out.trans (Hno.out h0)))
        clear h0 Hyes Hno
        go_wp2
        go_ret2
        exact ⟨_, _, rfl, by rw [HOn.out]; rfl, HBy.out⟩
      ·have haI : ¬ (a : Int) < m := by omega
       have HOn := Lib.hid (HOO.out.2 (Hrest.out.trans (rest_end (by rw [HR.out.len]; omega))))
       go_wp2
       go_ret2
       exact ⟨.slice A k cv, .bool true, rfl, by rw [HOn.out]; exact ⟨rfl, Hv.out⟩, HBy.out⟩

end Go.Proofs.YtnlnmfkmbpihhaaGreatDoor

namespace Go.Proofs.YtnlnmfkmbpihhaaGreatDoor
open Go.RowKit

theorem own_slice8 {w : World} {B n : Nat} {v : Value} {xs : List Nat} (h : w.ownsRow B 5 1 v n (xs.map u8V)) (hn : 0 < n) : ∃ g cap, v = .slice (some ⟨g, 0, none⟩) n cap ∧ B ≤ g ∧ xs.length = n := by
 obtain ⟨hl, h0 | ⟨g, cap, cur, e, hg, _⟩⟩ := h
 ·omega
 ·rw [List.length_map] at hl
  exact ⟨g, cap, e, hg, by omega⟩
theorem rowV8_eq {g n cap : Nat} {xs : List Nat} (h : xs.length = n) : Value.slice (some ⟨g, 0, none⟩) n cap = rowV8 (g, cap, xs) := by subst h; rfl
theorem own_row8 {w : World} {B g n cap : Nat} {xs : List Nat} (h : w.ownsRow B 5 1 (.slice (some ⟨g, 0, none⟩) n cap) n (xs.map u8V)) (e : xs.length = n) : w.ownsRow B 5 1 (rowV8 (g, cap, xs)) xs.length (xs.map u8V) := by subst e; exact h
/-- append of one row to the rows. -/
theorem run_appRow {W : World} {B n : Nat} {v r : Value} {R : List BRow} {x : BRow} (ty : TypeId) (hrv : r = rowV8 x) (hown : RowsB W B v R) (hn : n = R.length) (hn9 : n ≤ 900000) (hB : B ≤ W.heap.size) :
  ∃ v' w', (Builtin.append_ #[227, 227] ty #[v, .slice (some ⟨W.heap.size, 0, none⟩) 1 1]).run Tryz.prog (W.alloc (.cells #[r] 100)) = .ok v' w' ∧ w'.ownsRow B 100 1 v' (R.length + 1) (R.map rowV8 ++ [rowV8 x]) ∧
   (W.alloc (.cells #[r] 100)).grownBy w' v.ownBlock ∧ (v'.ownBlock = v.ownBlock ∨ ∃ k, v'.ownBlock = some k ∧ (W.alloc (.cells #[r] 100)).heap.size ≤ k) ∧ Below B W w' := by
 subst hn hrv
 obtain ⟨v', w', hr, h1, h2, h3⟩ := run_appendV (W.alloc (.cells #[rowV8 x] 100)) Tryz.underlying227 Tryz.infoU8s rfl (by omega) B ty v R.length _ (hown.own.alloc _) _ [rowV8 x] (VAt.one W _ _) (by simp [rowV8, Value.oneCell']) (by simp; omega) (by simp; omega)
 refine ⟨v', w', hr, by simpa using h1, h2, h3.imp id (fun e => ⟨_, e, Nat.le_refl _⟩), ?_⟩
 exact ((Below.refl _ _).alloc hB _).grown h2 (by simp; omega) (own_ge hown.own)
theorem wpList_appRow {ops : Array Oper} {rest : List Oper} {o : Oper} {a : Act} {Q : Exit → Act → World → Prop} {W : World} {B n : Nat} {v r : Value} {R : List BRow} {x : BRow} (hw : Region.wanted o (yielded ops a.tmps) = true) (s y : Operand) (ho : o.op = .call { callee := .builtin .append, args := #[s, y], argTypes := #[227, 227] })
  (hs : a.eval s = v) (hy : a.eval y = .slice (some ⟨W.heap.size, 0, none⟩) 1 1) (hrv : r = rowV8 x) (hown : RowsB W B v R) (hn : n = R.length) (hn9 : n ≤ 900000) (hB : B ≤ W.heap.size)
  (h : ∀ v' w', w'.ownsRow B 100 1 v' (R.length + 1) (R.map rowV8 ++ [rowV8 x]) → (W.alloc (.cells #[r] 100)).grownBy w' v.ownBlock → (v'.ownBlock = v.ownBlock ∨ ∃ k, v'.ownBlock = some k ∧ (W.alloc (.cells #[r] 100)).heap.size ≤ k) → Below B W w' → wpList Tryz.prog ops Q rest (a.put o.dst v') w') : wpList Tryz.prog ops Q (o :: rest) a (W.alloc (.cells #[r] 100)) :=
 wpList_step fun K hK => by
  simp only [hw, if_true]
  obtain ⟨v', w', hr, g1, g2, g3, g4⟩ := run_appRow o.type hrv hown hn hn9 hB
  unfold Oper.wp execOp
  simp only [ho, resolve, invoke, builtin, Sem.run_bind, Sem.run_pure, Result.andThen_ok, List.map_toArray, List.map_cons, List.map_nil, hs, hy, hr]
  exact hK _ _ (h v' w' g1 g2 g3 g4)
/-- The rows with one more: w ahead of the row, w1 behind it, w2 behind the append. -/
theorem RowsB.more {w w1 w2 : World} {B : Nat} {v v' r : Value} {R : List BRow} {x : BRow} (h : RowsB w B v R) (hBw : B ≤ w.heap.size) (hb : Below w.heap.size w w1) (hx : w1.ownsRow w.heap.size 5 1 (rowV8 x) x.2.2.length (x.2.2.map u8V))
  (hown : w2.ownsRow B 100 1 v' (R.length + 1) (R.map rowV8 ++ [rowV8 x])) (hg : (w1.alloc (.cells #[r] 100)).grownBy w2 v.ownBlock) (hat : v'.ownBlock = v.ownBlock ∨ ∃ k, v'.ownBlock = some k ∧ (w1.alloc (.cells #[r] 100)).heap.size ≤ k) : RowsB w2 B v' (R ++ [x]) :=
 h.snoc (w1 := w1.alloc (.cells #[r] 100)) hBw (hb.alloc hb.size _) (hx.alloc _) hown hg hat
def ErrP (O : Option (List Nat)) (v f : Value) (w : World) : Prop := match O with
 | none => f = .bool false
 | some y => f = .bool true ∧ NatsAt w v y

set_option maxRecDepth 100000 in
set_option maxHeartbeats 16000000 in
theorem rerrs_any (w : World) (v0 : Value) (t : List Nat) (n e : Nat) (hv : BytesAt w v0 t) (ht : t.length = 8) (hb : Bytes t) (hn : n ≤ 255) (he : e ≤ 4) :
  Calls Tryz.prog 145 #[v0, .int .i64 (n : Int), .int .i64 (e : Int), .slice none 0 0] w fun x w' => ∃ v f, x = .returned (.tuple #[v, f]) ∧ ErrP (errsR t n e) v f w' ∧ Below w.heap.size w w' := by
 obtain ⟨O, hO⟩ : ∃ O, errsR t n e = O := ⟨_, rfl⟩
 rw [hO]
 have HO1 : Hid (gaussR (rowsE t e) e = none → O = none) := Lib.hid (fun h => by rw [← hO]; unfold errsR; rw [h])
 have HO2 : Hid (∀ l, gaussR (rowsE t e) e = some l → O = if (errsTo l n e n).length = e then some (errsTo l n e n) else none) := Lib.hid (fun l h => by rw [← hO]; unfold errsR; rw [h]; rfl)
 have HmE := Lib.hid (matE hb e)
 have Hv := Lib.hid hv
 obtain ⟨A, c0, rfl, h1, h2, h3⟩ := hv
 rw [ht] at h1 ⊢
 have heI : (e : Int) ≤ 4 := by omega
 have hnI : (n : Int) ≤ 255 := by omega
 clear hO h3
 go_enter Tryz.func145, Tryz.ntmps145
 go_wp2
 go_loopw [10, 12] (fun v x wr => ∃ (i j : Nat) (RR : List BRow), i ≤ 8 - e ∧ j = e + i ∧ x = .int .i64 (j : Int) ∧ RowsB wr w.heap.size v RR ∧ RR.map (·.2.2) = (rowsE t e).take i ∧ Below w.heap.size w wr) (fun _ x _ => 8 - (intOf x).toNat)
 case atStart => exact ⟨0, e, [], by omega, rfl, rfl, RowsB.nil _ _, rfl, Below.refl _ _⟩
 case round =>
  obtain ⟨i, j, RR, hi, hj, rfl, hrows, hmap, hB⟩ := hrel
  obtain ⟨wo, rfl⟩ : ∃ x, x = wr := ⟨_, rfl⟩
  have Hrows := Lib.hid hrows
  have Hmap := Lib.hid hmap
  have HBo := Lib.hid hB
  have Hj := Lib.hid hj
  have hj8 : j ≤ 8 := by omega
  have hej : e ≤ j := by omega
  clear hrows hmap hB hj
  by_cases h : j < 8
  ·have hjI : (j : Int) < 8 := by omega
   have Hre := Lib.hid (fun k hk => rowE_step t e j (k := k) hk)
   have Hrf := Lib.hid (rowE_full t e j)
   have Hrl := Lib.hid (rowE_len t e j)
   have Hse := Lib.hid (rowsE_step t e (i := i) (by have := Hj.out; omega))
   have hje : e + i = j := Hj.out.symm
   rw [hje] at Hse
   generalize rowE t e j = rE at *
   go_wp2
   go_loopw [13, 14] (fun v x wx => ∃ q p : Nat, q ≤ e ∧ p = q + 1 ∧ x = .int .i64 (p : Int) ∧ wx.ownsRow wo.heap.size 5 1 v q ((rE.take q).map u8V) ∧ Below wo.heap.size wo wx) (fun _ x _ => e + 1 - (intOf x).toNat)
   case atStart => exact ⟨0, 1, by omega, rfl, rfl, World.ownsRow_nil _ _ _ _, Below.refl _ _⟩
   case round =>
    obtain ⟨q, p, hq, hp, rfl, ho, hB⟩ := hrel
    have Ho := Lib.hid ho
    have HBx := Lib.hid hB
    have hBz := hB.size
    have Hp := Lib.hid hp
    have hq9 : q ≤ 900000 := by omega
    have hp9 : p ≤ 5 := by omega
    clear ho hB
    by_cases hqe : q < e
    ·have hpI : (p : Int) ≤ e := by omega
     have hjp : j - p < 8 := by omega
     have hs1 : IntKind.i64.wrap ((j : Int) - p) = (j : Int) - p := IntWalk.i64_in _ (by omega)
     have hs2 : ((j : Int) - p).toNat = j - p := by omega
     have hs3 : (0 : Int) ≤ (j : Int) - p := by omega
     have hs4 : (j : Int) - p < 8 := by omega
     obtain ⟨gb, go, rfl, hc⟩ := ((Hv.out.below HBo.out).below HBx.out).cell (i := j - p) (x := cf t (j - p)) (by unfold cf; rw [List.getElem?_eq_getElem (by omega)]; rfl)
     have Hst : Hid (rE.take q ++ [cf t (j - p)] = rE.take (q + 1)) := Lib.hid (by rw [hp]; exact Hre.out q hqe)
     clear hp
     generalize cf t (j - p) = y at *
     go_wp2_with (at_builtin; refine wpList_app1 rfl _ _ rfl rfl rfl Ho.out hq9 hBz ?_; intro v1 w3 ho1 hb1)
     go_roundw
     case rel =>
      refine ⟨q + 1, p + 1, by omega, by have := Hp.out; omega, by go_num, ?_, HBx.out.trans hb1⟩
      rw [← Hst.out]
      exact ho1
     case measure => simp [intOf]; omega
    ·obtain rfl : q = e := by omega
     have hpI : ¬ (p : Int) ≤ q := by omega
     obtain ⟨gb, go, rfl, hc⟩ := ((Hv.out.below HBo.out).below HBx.out).cell (i := j) (x := cf t j) (by unfold cf; rw [List.getElem?_eq_getElem (by omega)]; rfl)
     have hRz : RR.length ≤ 900000 := by
      have h5 := congrArg List.length Hmap.out
      rw [List.length_map, List.length_take, rowsE_len] at h5
      omega
     have hoz := HBo.out.size
     generalize cf t j = y at *
     clear hp
     go_wp2_with (first
      | (at_builtin; refine wpList_app1 rfl _ _ rfl rfl rfl Ho.out hq9 hBz ?_; intro v1 w3 ho1 hb1; rw [Hrf.out] at ho1; obtain ⟨g1, cap1, rfl, hg1, hl1⟩ := own_slice8 ho1 (by omega); have HX3 := Lib.hid (own_row8 ho1 hl1); have HB3 := Lib.hid (HBx.out.trans hb1); have HR3 := Lib.hid (Hrows.out.below (HBx.out.trans hb1)); have Hrv := Lib.hid (rowV8_eq (g := g1) (cap := cap1) hl1); have hw3 : w.heap.size ≤ w3.heap.size := Nat.le_trans hoz HB3.out.size; clear ho1 hb1)
      | (at_builtin; refine wpList_appRow rfl _ _ rfl rfl rfl Hrv.out HR3.out rfl hRz hw3 ?_; intro v2 w4 ho2 hg2 ha2 hb4))
     have HR4 := Lib.hid (Hrows.out.more hoz HB3.out HX3.out ho2 hg2 ha2)
     have HB4 := Lib.hid ((HBo.out.trans (HB3.out.mono hoz)).trans hb4)
     have HM4 : Hid ((RR ++ [(g1, cap1, rE)]).map (·.2.2) = (rowsE t q).take (i + 1)) := Lib.hid (by rw [List.map_append, Hmap.out, ← Hse.out]; rfl)
     clear ho2 hg2 ha2 hb4 HB3 HX3 HR3 Hrv
     go_roundw
     case rel => exact ⟨i + 1, j + 1, _, by have := Hj.out; omega, by have := Hj.out; omega, by go_num, HR4.out, HM4.out, HB4.out⟩
     case measure => simp [intOf]; omega
  ·have hj8e : j = 8 := by omega
   subst hj8e
   have hi8 : i = 8 - e := by have := Hj.out; omega
   subst hi8
   have hjI : ¬ ((8 : Nat) : Int) < 8 := by omega
   have hm8 := Hmap.out
   rw [List.take_of_length_le (by rw [rowsE_len]; exact Nat.le_refl _)] at hm8
   have hRl : RR.length = 8 - e := by
    have h5 := congrArg List.length hm8
    rwa [List.length_map, rowsE_len] at h5
   have hRw : ∀ x ∈ RR, x.2.2.length = e + 1 := fun x hx => by
    have h5 : x.2.2 ∈ rowsE t e := by rw [← hm8]; exact List.mem_map_of_mem hx
    unfold rowsE at h5
    obtain ⟨k, _, e5⟩ := List.mem_map.1 h5
    rw [← e5, rowE_len]
   obtain ⟨g, cap, e3, hg3⟩ : ∃ g cap, u10 = .slice (some ⟨g, 0, none⟩) RR.length cap ∧ w.heap.size ≤ g := by
    obtain ⟨_, ⟨_, h0⟩ | ⟨g, cap, cur, e, hg, _⟩⟩ := Hrows.out.own
    ·omega
    ·exact ⟨g, cap, e, hg⟩
   subst e3
   have HMM := Lib.hid (MatM.of_rows Hrows.out hRw)
   rw [hm8] at HMM
   have hl1 : 1 ≤ 8 - e := by omega
   have hge : ¬ (((8 - e : Nat) : Int) < e) := by omega
   rw [hRl] at HMM ⊢
   have HG := Lib.hid (fun W (hb : Below wo.heap.size wo W) => rgauss_any W w.heap.size g (8 - e) e cap _ _ _ (HMM.out.below hb) HmE.out (by omega) (by omega))
   clear hm8 hRl hRw Hrows Hmap HMM Hj hg3
   go_upto_region 15 with (go_at_call 207; refine (HG.out _ (Below.refl _ _)).mono ?_; rintro x wg ⟨vg, fg, rfl, hgp, hbg⟩)
   have HBg := Lib.hid (HBo.out.trans hbg)
   clear HG hbg
   cases hG : gaussR (rowsE t e) e with
   | none =>
    rw [hG] at hgp
    have hfg : fg = .bool false := hgp
    subst hfg
    have HOn := Lib.hid (HO1.out hG)
    clear hG hgp
    go_wp2
    go_ret2
    exact ⟨_, _, rfl, by rw [HOn.out]; rfl, HBg.out⟩
   | some l =>
    rw [hG] at hgp
    obtain ⟨hfg, hl⟩ := hgp
    subst hfg
    have HOs := Lib.hid (HO2.out l hG)
    have hll := gauss_len hG
    have Hlb := Lib.hid (gauss_bytes HmE.out (by omega) hG)
    have Hl := Lib.hid hl
    obtain ⟨Al, cl, rfl, k1, k2, k3⟩ := hl
    rw [hll] at k1 ⊢
    have Hll := Lib.hid hll
    clear hG k3 hll HO1 HO2
    go_wp2
    go_loopw [17, 18] (fun v x wr => ∃ i : Nat, i ≤ n ∧ x = .int .i64 (i : Int) ∧ wr.ownsRow wg.heap.size 3 1 v (errsTo l n e i).length ((errsTo l n e i).map natV) ∧ Below wg.heap.size wg wr) (fun _ x _ => n - (intOf x).toNat)
    case atStart => exact ⟨0, by omega, rfl, World.ownsRow_nil _ _ _ _, Below.refl _ _⟩
    case round =>
     obtain ⟨i, hi, rfl, ho, hB⟩ := hrel
     obtain ⟨wi, rfl⟩ : ∃ x, x = wr := ⟨_, rfl⟩
     have Ho := Lib.hid ho
     have HBi := Lib.hid hB
     have hBz := hB.size
     clear ho hB
     by_cases hin : i < n
     ·have hiI : (i : Int) < n := by omega
      have HE := Lib.hid (fun W => r8elem_any W i n hin hn)
      have HI := Lib.hid (fun W => r5inv_any W (pw (n - 1 - i)) (pw_lt _))
      have hgi : ginvR (pw (n - 1 - i)) = .tuple #[.int .u8 (ginv (pw (n - 1 - i)) : Nat), .bool true] := by unfold ginvR; rw [if_neg (pw_ne_zero _)]
      rw [hgi] at HI
      have hX := ginv_lt (pw_lt (n - 1 - i))
      have Hyes := Lib.hid (fun h => errsTo_yes (l := l) (n := n) (e := e) (i := i) h)
      have Hno := Lib.hid (fun h => errsTo_no (l := l) (n := n) (e := e) (i := i) h)
      have hln := Nat.le_trans (errsTo_len l n e i) (show i ≤ 900000 by omega)
      have HH := Lib.hid (fun W => r8has_nil W i)
      clear hgi
      generalize ginv (pw (n - 1 - i)) = X at *
      generalize pw (n - 1 - i) = y0 at *
      go_wp2_with (first | (go_at_call 205; refine (HE.out _).mono ?_; rintro x w' ⟨rfl, rfl⟩) | (go_at_call 208; refine (HI.out _).mono ?_; rintro x w' ⟨rfl, rfl⟩))
      go_loopw [21, 22] (fun v x wx => ∃ q p m : Nat, q ≤ e ∧ p = q + 1 ∧ x = .int .i64 (p : Int) ∧ v = .int .u8 (sumE l X q : Nat) ∧ wx = wi.drewN m) (fun _ x _ => e + 1 - (intOf x).toNat)
      case atStart => exact ⟨0, 1, 0, by omega, rfl, rfl, rfl, rfl⟩
      case round =>
       obtain ⟨q, p, m, hq, hp, rfl, rfl, hwx⟩ := hrel
       have Hw := Lib.hid hwx
       have Hp := Lib.hid hp
       have hp9 : p ≤ 5 := by omega
       have hsq := sumE_lt Hlb.out hX q
       have hBx : Below wg.heap.size wg wr := by rw [hwx]; exact below_drewN HBi.out m
       by_cases hqe : q < e
       ·have hpI : (p : Int) ≤ e := by omega
        have hqp : p - 1 = q := by omega
        have hs1 : IntKind.i64.wrap ((p : Int) - 1) = (q : Int) := by rw [IntKind.wrap_i64]; omega
        have hs4 : (q : Int) < e := by omega
        obtain ⟨gb, go, rfl, hc⟩ := (Hl.out.below hBx).cell (i := q) (x := cf l q) (by unfold cf; rw [List.getElem?_eq_getElem (by rw [Hll.out]; exact hqe)]; rfl)
        have hxl : xp X (q + 1) < 256 := xp_lt hX _
        have hll := cf_lt Hlb.out q
        have hPw : ∀ W, Calls Tryz.prog 209 #[.int .u8 (X : Int), .int .i64 (p : Int)] W fun x w' => x = .returned (.int .u8 (xp X (q + 1) : Nat)) ∧ W = w' := fun W => by
         rw [hp]
         exact r8power_any W X (q + 1) hX (by omega)
        have HPw := Lib.hid hPw
        have Hm := Lib.hid (fun W => r5mul_any W (cf l q) (xp X (q + 1)) hll hxl)
        have hxx := u8_xor hsq (gmul_lt (xp X (q + 1)) hll)
        have Hst : Hid (sumE l X (q + 1) = sumE l X q ^^^ gmul (cf l q) (xp X (q + 1))) := Lib.hid rfl
        clear hp hwx hBx hPw
        generalize gmul (cf l q) (xp X (q + 1)) = z at *
        generalize xp X (q + 1) = y1 at *
        generalize cf l q = y2 at *
        generalize sumE l X q = y3 at *
        go_wp2
        go_quiet (first | (go_at_call 209; refine Calls.quiet_of_same (still_of (HPw.out _))) | (go_at_call 206; refine Calls.quiet_of_same (still_of (Hm.out _))))
        go_wp2
        go_roundw
        case rel => exact ⟨q + 1, p + 1, m + nq, by omega, by have := Hp.out; omega, by go_num, by rw [Hst.out], by rw [Hw.out, World.drewN_drewN]⟩
        case measure => simp [intOf]; omega
       ·obtain rfl : q = e := by omega
        have hpI : ¬ (p : Int) ≤ q := by omega
        have hox : wr.ownsRow wg.heap.size 3 1 u17 (errsTo l n q i).length ((errsTo l n q i).map natV) := by rw [hwx]; exact own_below8 Ho.out (below_drewN (Below.refl _ _) m)
        have Hox := Lib.hid hox
        have hrz := hBx.size
        have HBx := Lib.hid hBx
        clear hwx hp hox hBx
        generalize sumE l X q = sm at *
        generalize errsTo l n q i = D at *
        by_cases h0 : sm = 0
        ·have h0I : ((sm : Int) == 0) = true := by rw [h0]; rfl
         have Hst := Lib.hid (Hyes.out h0)
         clear h0 Hyes Hno
         go_wp2_with (first | (go_at_call 142; refine (HH.out _).mono ?_; rintro x w' ⟨rfl, rfl⟩) | (at_builtin; refine wpList_appOne Tryz.underlying70 Tryz.infoInt rfl (by omega) rfl _ _ rfl rfl rfl rfl Hox.out hln hrz ?_; intro v1 w3 ho1 hb1))
         go_roundw
         case rel =>
          refine ⟨i + 1, by omega, by go_num, ?_, HBx.out.trans hb1⟩
          rw [Hst.out, List.length_append, List.map_append]
          exact ho1
         case measure => simp [intOf]; omega
        ·have h0I : ((sm : Int) == 0) = false := by simpa using fun e : (sm : Int) = 0 => h0 (by omega)
         have Hst := Lib.hid (Hno.out h0)
         clear h0 Hyes Hno
         go_wp2
         go_roundw
         case rel => exact ⟨i + 1, by omega, by go_num, by rw [Hst.out]; exact Hox.out, HBx.out⟩
         case measure => simp [intOf]; omega
     ·obtain rfl : i = n := by omega
      have hiI : ¬ (i : Int) < i := by omega
      have HBf := Lib.hid (HBg.out.trans (HBi.out.mono HBg.out.size))
      have hos := SlAt.of_own Ho.out
      have Hos := Lib.hid hos
      obtain ⟨Ao, co, rfl, j1, j2, j3⟩ := hos
      generalize errsTo l i e i = D at *
      clear j3 Ho
      by_cases hde : D.length = e
      ·have hdeI : ((D.length : Int) == (e : Int)) = true := by rw [hde]; simp
       have HOn : Hid (O = some D) := Lib.hid (by rw [HOs.out, if_pos hde])
       clear hde
       go_wp2
       go_ret2
       exact ⟨.slice Ao D.length co, .bool true, rfl, by rw [HOn.out]; exact ⟨rfl, Hos.out⟩, HBf.out⟩
      ·have hdeI : ((D.length : Int) == (e : Int)) = false := by simp; omega
       have HOn : Hid (O = none) := Lib.hid (by rw [HOs.out, if_neg hde])
       clear hde
       go_wp2
       go_ret2
       exact ⟨.slice Ao D.length co, .bool false, rfl, by rw [HOn.out]; rfl, HBf.out⟩

end Go.Proofs.YtnlnmfkmbpihhaaGreatDoor

namespace Go.Proofs.YtnlnmfkmbpihhaaGreatDoor
open Go.RowKit

def ValP (O : Option (List Nat)) (s f : Value) : Prop := match O with
 | none => f = .bool false
 | some y => f = .bool true ∧ s = .string (strB y)

set_option maxRecDepth 100000 in
set_option maxHeartbeats 16000000 in
theorem rvals_any (w : World) (s : ByteArray) (v0 v1 : Value) (at_ : List Nat) (hs : s.size = 52) (hv : BytesAt w v0 (synd (bs s))) (ha : NatsAt w v1 at_) (hal : at_.length ≤ 4) (hat : ∀ k, k < at_.length → cf at_ k < 52) :
  Calls Tryz.prog 146 #[.string s, v0, v1] w fun x w' => ∃ v f, x = .returned (.tuple #[v, f]) ∧ ValP (valR (bs s) at_) v f ∧ Below w.heap.size w w' := by
 have hby : Bytes (bs s) := fun b hb => bs_lt s b hb
 have hbl : (bs s).length = 52 := by rw [bs_len, hs]
 obtain ⟨O, hO⟩ : ∃ O, valR (bs s) at_ = O := ⟨_, rfl⟩
 rw [hO]
 have HO1 : Hid (gaussR (rowsV (bs s) at_) at_.length = none → O = none) := Lib.hid (fun h => by rw [← hO]; unfold valR; rw [h])
 have HO2 : Hid (∀ y, gaussR (rowsV (bs s) at_) at_.length = some y → O = some (fixV (bs s) at_ y at_.length)) := Lib.hid (fun l h => by rw [← hO]; unfold valR; rw [h])
 have HmV := Lib.hid (matV hby at_)
 have Hv := Lib.hid hv
 have Ha := Lib.hid ha
 have Hat := Lib.hid hat
 have Hby := Lib.hid hby
 have hsb := synd_bytes hby
 have hsl := synd_len (bs s)
 have Hre := Lib.hid (fun j k hk => rowV_step (bs s) at_ j (k := k) hk)
 have Hrf := Lib.hid (fun j => rowV_full (bs s) at_ j)
 have Hrl := Lib.hid (fun j => rowV_len (bs s) at_ j)
 have Hse := Lib.hid (fun j hj => rowsV_step (bs s) at_ (j := j) hj)
 have Hsl := Lib.hid (rowsV_len (bs s) at_)
 rw [hbl] at Hre
 have Hbl := Lib.hid hbl
 obtain ⟨A, c0, rfl, h1, h2, h3⟩ := hv
 obtain ⟨A1, c1, rfl, k1, k2, k3⟩ := ha
 rw [hsl] at h1 ⊢
 have Hsyl := Lib.hid hsl
 have haI : (at_.length : Int) ≤ 4 := by omega
 have hsI : (s.size : Int) = 52 := by omega
 clear hO h3 k3 hby hbl hat hsb hsl
 go_enter Tryz.func146, Tryz.ntmps146
 go_wp2
 go_loopw [8, 9] (fun v x wr => ∃ (j : Nat) (RR : List BRow), j ≤ 8 ∧ x = .int .i64 (j : Int) ∧ RowsB wr w.heap.size v RR ∧ RR.map (·.2.2) = (rowsV (bs s) at_).take j ∧ Below w.heap.size w wr) (fun _ x _ => 8 - (intOf x).toNat)
 case atStart => exact ⟨0, [], by omega, rfl, RowsB.nil _ _, rfl, Below.refl _ _⟩
 case round =>
  obtain ⟨j, RR, hj, rfl, hrows, hmap, hB⟩ := hrel
  obtain ⟨wo, rfl⟩ : ∃ x, x = wr := ⟨_, rfl⟩
  have Hrows := Lib.hid hrows
  have Hmap := Lib.hid hmap
  have HBo := Lib.hid hB
  clear hrows hmap hB
  by_cases h : j < 8
  ·have hjI : (j : Int) < 8 := by omega
   have Hrej := Lib.hid (Hre.out j)
   have Hrfj := Lib.hid (Hrf.out j)
   have Hrlj := Lib.hid (Hrl.out j)
   have Hsej := Lib.hid (Hse.out j h)
   generalize rowV (bs s) at_ j = rE at *
   go_wp2
   go_loopw [10, 11] (fun v x wx => ∃ q : Nat, q ≤ at_.length ∧ x = .int .i64 (q : Int) ∧ wx.ownsRow wo.heap.size 5 1 v q ((rE.take q).map u8V) ∧ Below wo.heap.size wo wx) (fun _ x _ => at_.length - (intOf x).toNat)
   case atStart => exact ⟨0, by omega, rfl, World.ownsRow_nil _ _ _ _, Below.refl _ _⟩
   case round =>
    obtain ⟨q, hq, rfl, ho, hB⟩ := hrel
    have Ho := Lib.hid ho
    have HBx := Lib.hid hB
    have hBz := hB.size
    have hq9 : q ≤ 900000 := by omega
    clear ho hB
    by_cases hqe : q < at_.length
    ·have hpI : (q : Int) < at_.length := by omega
     have haq := Hat.out q hqe
     obtain ⟨gb, go, e9, hc⟩ := SlAt.cell ((Ha.out.below HBo.out).below HBx.out) (i := q) (x := cf at_ q) (by unfold cf; rw [List.getElem?_eq_getElem hqe]; rfl)
     have HE := Lib.hid (fun W => r8elem_any W (cf at_ q) 52 haq (by omega))
     have HP := Lib.hid (fun W => r8power_any W (pw (52 - 1 - cf at_ q)) j (pw_lt _) (by omega))
     have Hst := Lib.hid (Hrej.out q hqe)
     cases e9
     generalize xp (pw (52 - 1 - cf at_ q)) j = z at *
     generalize pw (52 - 1 - cf at_ q) = y0 at *
     generalize cf at_ q = a0 at *
     go_wp2_with (first | (go_at_call 205; refine (HE.out _).mono ?_; rintro x w' ⟨rfl, rfl⟩) | (go_at_call 209; refine (HP.out _).mono ?_; rintro x w' ⟨rfl, rfl⟩) | (at_builtin; refine wpList_app1 rfl _ _ rfl rfl rfl Ho.out hq9 hBz ?_; intro v1 w3 ho1 hb1))
     go_roundw
     case rel =>
      refine ⟨q + 1, by omega, by go_num, ?_, HBx.out.trans hb1⟩
      rw [← Hst.out]
      exact ho1
     case measure => simp [intOf]; omega
    ·obtain rfl : q = at_.length := by omega
     have hpI : ¬ (at_.length : Int) < at_.length := by omega
     obtain ⟨gb, go, e9, hc⟩ := ((Hv.out.below HBo.out).below HBx.out).cell (i := j) (x := cf (synd (bs s)) j) (by unfold cf; rw [List.getElem?_eq_getElem (by rw [Hsyl.out]; exact h)]; rfl)
     cases e9
     have hRz : RR.length ≤ 900000 := by
      have h5 := congrArg List.length Hmap.out
      rw [List.length_map, List.length_take, Hsl.out] at h5
      omega
     have hoz := HBo.out.size
     generalize cf (synd (bs s)) j = y at *
     go_wp2_with (first
      | (at_builtin; refine wpList_app1 rfl _ _ rfl rfl rfl Ho.out hq9 hBz ?_; intro v1 w3 ho1 hb1; rw [Hrfj.out] at ho1; obtain ⟨g1, cap1, rfl, hg1, hl1⟩ := own_slice8 ho1 (by omega); have HX3 := Lib.hid (own_row8 ho1 hl1); have HB3 := Lib.hid (HBx.out.trans hb1); have HR3 := Lib.hid (Hrows.out.below (HBx.out.trans hb1)); have Hrv := Lib.hid (rowV8_eq (g := g1) (cap := cap1) hl1); have hw3 : w.heap.size ≤ w3.heap.size := Nat.le_trans hoz HB3.out.size; clear ho1 hb1)
      | (at_builtin; refine wpList_appRow rfl _ _ rfl rfl rfl Hrv.out HR3.out rfl hRz hw3 ?_; intro v2 w4 ho2 hg2 ha2 hb4))
     have HR4 := Lib.hid (Hrows.out.more hoz HB3.out HX3.out ho2 hg2 ha2)
     have HB4 := Lib.hid ((HBo.out.trans (HB3.out.mono hoz)).trans hb4)
     have HM4 : Hid ((RR ++ [(g1, cap1, rE)]).map (·.2.2) = (rowsV (bs s) at_).take (j + 1)) := Lib.hid (by rw [List.map_append, Hmap.out, ← Hsej.out]; rfl)
     clear ho2 hg2 ha2 hb4 HB3 HX3 HR3 Hrv
     go_roundw
     case rel => exact ⟨j + 1, _, by omega, by go_num, HR4.out, HM4.out, HB4.out⟩
     case measure => simp [intOf]; omega
  ·have hj8e : j = 8 := by omega
   subst hj8e
   have hjI : ¬ ((8 : Nat) : Int) < 8 := by omega
   have hm8 := Hmap.out
   rw [List.take_of_length_le (by rw [Hsl.out]; exact Nat.le_refl _)] at hm8
   have hRl : RR.length = 8 := by
    have h5 := congrArg List.length hm8
    rwa [List.length_map, Hsl.out] at h5
   have hRw : ∀ x ∈ RR, x.2.2.length = at_.length + 1 := fun x hx => by
    have h5 : x.2.2 ∈ rowsV (bs s) at_ := by rw [← hm8]; exact List.mem_map_of_mem hx
    unfold rowsV at h5
    obtain ⟨k, _, e5⟩ := List.mem_map.1 h5
    rw [← e5, rowV_len]
   obtain ⟨g, cap, e3, hg3⟩ : ∃ g cap, u8 = .slice (some ⟨g, 0, none⟩) RR.length cap ∧ w.heap.size ≤ g := by
    obtain ⟨_, ⟨_, h0⟩ | ⟨g, cap, cur, e, hg, _⟩⟩ := Hrows.out.own
    ·omega
    ·exact ⟨g, cap, e, hg⟩
   subst e3
   have HMM := Lib.hid (MatM.of_rows Hrows.out hRw)
   rw [hm8] at HMM
   rw [hRl] at HMM ⊢
   have hge : ¬ ((8 : Int) < at_.length) := by omega
   have HG := Lib.hid (fun W (hb : Below wo.heap.size wo W) => rgauss_any W w.heap.size g 8 at_.length cap _ _ _ (HMM.out.below hb) HmV.out (by omega) (by omega))
   clear hm8 hRl hRw Hrows Hmap HMM hg3
   go_upto_region 14 with (go_at_call 207; refine (HG.out _ (Below.refl _ _)).mono ?_; rintro x wg ⟨vg, fg, rfl, hgp, hbg⟩)
   have HBg := Lib.hid (HBo.out.trans hbg)
   have Hag : Hid (NatsAt wg (.slice A1 at_.length c1) at_) := Lib.hid (SlAt.keep Ha.out (fun p u hu => (HBg.out.cell (World.block_lt_of_cell? _ _ hu)).trans hu) plainR_keep)
   clear HG hbg
   cases hG : gaussR (rowsV (bs s) at_) at_.length with
   | none =>
    rw [hG] at hgp
    have hfg : fg = .bool false := hgp
    subst hfg
    have HOn := Lib.hid (HO1.out hG)
    clear hG hgp
    go_wp2
    go_ret2
    exact ⟨_, _, rfl, by rw [HOn.out]; rfl, HBg.out⟩
   | some l =>
    rw [hG] at hgp
    obtain ⟨hfg, hl⟩ := hgp
    subst hfg
    have HOs := Lib.hid (HO2.out l hG)
    have hll := gauss_len hG
    have Hlb := Lib.hid (gauss_bytes HmV.out (by omega) hG)
    have Hl := Lib.hid hl
    obtain ⟨Al, cl, rfl, k1, k2, k3⟩ := hl
    rw [hll] at Hl k1 ⊢
    have Hll := Lib.hid hll
    clear hG k3 hll HO1 HO2
    obtain ⟨cb, wb, hcv, hc1, hc2, hrow, hbb, _⟩ := run_toBytes wg s (by omega)
    rw [hs] at hcv hc1
    have HW0 := Lib.hid hrow
    have HBb := Lib.hid hbb
    clear hrow hbb
    go_wp2
    clear hcv
    go_loopw [15] (fun x wr => ∃ k : Nat, k ≤ at_.length ∧ x = .int .i64 (k : Int) ∧ RowB wr wg.heap.size (fixV (bs s) at_ l k) ∧ Below wg.heap.size wg wr) (fun x _ => at_.length - (intOf x).toNat)
    case atStart => exact ⟨0, by omega, rfl, HW0.out, HBb.out⟩
    case round =>
     obtain ⟨k, hk, rfl, hr, hB⟩ := hrel
     clear HW0 HBb
     have Hr := Lib.hid hr
     have HBk := Lib.hid hB
     have Hfl : Hid ((fixV (bs s) at_ l k).length = 52) := Lib.hid (by rw [fixV_len, Hbl.out])
     have Hfb := Lib.hid (fixV_bytes Hby.out Hlb.out at_ k)
     clear hr hB
     by_cases hka : k < at_.length
     ·have hkI : (k : Int) < at_.length := by omega
      have haq := Hat.out k hka
      obtain ⟨gb, go, e9, hc⟩ := SlAt.cell (Hag.out.below HBk.out) (i := k) (x := cf at_ k) (by unfold cf; rw [List.getElem?_eq_getElem hka]; rfl)
      cases e9
      obtain ⟨gl, ol, e8, hcl⟩ := (Hl.out.below HBk.out).cell (i := k) (x := cf l k) (by unfold cf; rw [List.getElem?_eq_getElem (by rw [Hll.out]; exact hka)]; rfl)
      cases e8
      have hcr := Hr.out.cell (cf at_ k) (cf (fixV (bs s) at_ l k) (cf at_ k)) (by unfold cf; rw [List.getElem?_eq_getElem (by rw [Hfl.out]; exact haq)]; rfl)
      have hfr := Hr.out.free (cf at_ k) (by rw [Hfl.out]; exact haq)
      have hxx := u8_xor (cf_lt Hfb.out (cf at_ k)) (cf_lt Hlb.out k)
      have Hs1 := Lib.hid (Hr.out.set (cf at_ k) (cf (fixV (bs s) at_ l k) (cf at_ k) ^^^ cf l k))
      have Hst : Hid ((fixV (bs s) at_ l k).set (cf at_ k) (cf (fixV (bs s) at_ l k) (cf at_ k) ^^^ cf l k) = fixV (bs s) at_ l (k + 1)) := Lib.hid rfl
      rw [Hst.out] at Hs1
      have HBs := Lib.hid (HBk.out.setCell (p := ⟨wg.heap.size, cf at_ k, none⟩) (Nat.le_refl _) (.int .u8 ((cf (fixV (bs s) at_ l k) (cf at_ k) ^^^ cf l k : Nat) : Int)))
      have haI2 : ((cf at_ k : Nat) : Int) < 52 := by omega
      clear Hst
      generalize cf (fixV (bs s) at_ l k) (cf at_ k) = y1 at *
      generalize cf at_ k = a0 at *
      generalize cf l k = y2 at *
      go_wp2
      go_still_tail 18, (by kernel_rfl)
      go_wp2
      go_roundw
      case rel => exact ⟨k + 1, by omega, by go_num, Hs1.out.of_heap rfl, HBs.out.drew⟩
      case measure => simp [intOf]; omega
     ·obtain rfl : k = at_.length := by omega
      have hkI : ¬ (at_.length : Int) < at_.length := by omega
      have hv := Hr.out.bytes (n := 52) (c := cb) Hfl.out.symm hc1 hc2
      have hcs := run_toStr hv Hfl.out.symm
      have HBf := Lib.hid (HBg.out.trans (HBk.out.mono HBg.out.size))
      generalize fixV (bs s) at_ l at_.length = D at *
      clear hv
      go_wp2
      go_ret2
      exact ⟨.string (strB D), .bool true, rfl, by rw [HOs.out]; exact ⟨rfl, rfl⟩, HBf.out⟩

end Go.Proofs.YtnlnmfkmbpihhaaGreatDoor

namespace Go.Proofs.YtnlnmfkmbpihhaaGreatDoor
open Go.RowKit

theorem try_none1 {w : List Nat} {e : Nat} (h : errsR (synd w) w.length e = none) : refTry w e = none := by unfold refTry; rw [h]
theorem try_none2 {w at_ : List Nat} {e : Nat} (h : errsR (synd w) w.length e = some at_) (h2 : valR w at_ = none) : refTry w e = none := by
 unfold refTry
 rw [h]
 dsimp only
 rw [h2]
theorem try_some {w at_ c : List Nat} {e : Nat} (h : errsR (synd w) w.length e = some at_) (h2 : valR w at_ = some c) : refTry w e = if synd c = List.replicate 8 0 then some c else none := by
 unfold refTry
 rw [h]
 dsimp only
 rw [h2]
theorem go_next {w : List Nat} {k e : Nat} (h : refTry w e = none) : refGo w (k + 1) e = refGo w k (e + 1) := by
 conv => lhs; unfold refGo
 rw [h]
theorem go_found {w c : List Nat} {k e : Nat} (h : refTry w e = some c) : refGo w (k + 1) e = some (c, (differ w c).length) := by
 unfold refGo
 rw [h]
theorem errsR_ok {t at_ : List Nat} {n e : Nat} (h : errsR t n e = some at_) : at_.length = e ∧ ∀ k, k < at_.length → cf at_ k < n := by
 unfold errsR at h
 split at h
 ·cases h
 ·split at h
  ·next hl => cases h; exact ⟨hl, fun k hk => errs_lt hk⟩
  ·cases h
theorem valR_ok {w at_ c : List Nat} (hw : Bytes w) (ha : at_.length ≤ 8) (h : valR w at_ = some c) : c.length = w.length ∧ Bytes c := by
 unfold valR at h
 split at h
 ·cases h
 ·next y hy =>
  cases h
  exact ⟨fixV_len _ _ _ _, fixV_bytes hw (gauss_bytes (matV hw at_) ha hy) _ _⟩
theorem one_nats (xs : List Nat) : ∀ u ∈ xs.map natV, u.oneCell' = true := by
 intro u hu
 obtain ⟨x, _, rfl⟩ := List.mem_map.1 hu
 rfl
theorem VAt.nil (w : World) : VAt w (.slice none 0 0) [] := ⟨none, 0, rfl, Nat.le_refl _, by omega, fun j u hu => by cases hu⟩

set_option maxRecDepth 100000 in
set_option maxHeartbeats 16000000 in
theorem rdec8_any (w : World) (s : ByteArray) (hs : s.size = 52) : Calls Tryz.prog 83 #[.string s, .int .i64 8, .slice none 0 0] w fun x w' => x = .returned (rsDecR (bs s)) ∧ Below w.heap.size w w' := by
 have hby : Bytes (bs s) := fun b hb => bs_lt s b hb
 have hbl : (bs s).length = 52 := by rw [bs_len, hs]
 obtain ⟨R, hR⟩ : ∃ R, rsDecR (bs s) = R := ⟨_, rfl⟩
 rw [hR]
 have HR1 : Hid (refGo (bs s) 5 0 = none → R = .tuple #[.string ⟨#[]⟩, .int .i64 0, .int .i64 11]) := Lib.hid (fun h => by
  rw [refDec_eq hby (by omega)] at h
  rw [← hR]
  unfold rsDecR
  rw [h])
 have HR2 : Hid (∀ c d, refGo (bs s) 5 0 = some (c, d) → R = .tuple #[.string (strB c), .int .i64 (d : Int), .int .i64 0]) := Lib.hid (fun c d h => by
  rw [refDec_eq hby (by omega)] at h
  rw [← hR]
  unfold rsDecR
  rw [h])
 have HS := Lib.hid (fun W => r7syn_any W s hs)
 have Hby := Lib.hid hby
 have Hbl := Lib.hid hbl
 have Hsl := Lib.hid (synd_len (bs s))
 have Hsb := Lib.hid (synd_bytes hby)
 have hsI : (s.size : Int) = 52 := by omega
 clear hR hby hbl
 go_enter Tryz.func83, Tryz.ntmps83
 go_wp2
 go_loopw [9, 10] (fun v x wr => v = .slice none 0 0 ∧ x = .int .i64 0 ∧ w = wr) (fun _ _ _ => 0)
 case atStart => exact ⟨rfl, rfl, rfl⟩
 case round =>
  obtain ⟨rfl, rfl, rfl⟩ := hrel
  go_upto_region 14 with (go_at_call 143; refine (HS.out _).mono ?_; rintro x w1 ⟨v1, rfl, hv1, hb1⟩)
  have Hv := Lib.hid hv1
  have HB1 := Lib.hid hb1
  have HMd := Lib.hid (fun W (hb : Below w1.heap.size w1 W) => r8mod_nil W v1 (synd (bs s)) 52 (hv1.below hb) Hsl.out)
  clear hv1 hb1 HS
  go_upto_region 15 with (go_at_call 144; refine (HMd.out _ (Below.refl _ _)).mono ?_; rintro x w2 ⟨v2, rfl, hv2, hb2⟩)
  have Hv2 := Lib.hid hv2
  have Hv1 := Lib.hid (Hv.out.below hb2)
  have HB2 := Lib.hid (HB1.out.trans (hb2.mono HB1.out.size))
  clear hv2 hb2 HMd Hv HB1
  go_wp2
  go_loopw [14] (fun x wr => ∃ e : Nat, e ≤ 5 ∧ x = .int .i64 (e : Int) ∧ refGo (bs s) 5 0 = refGo (bs s) (5 - e) e ∧ Below w2.heap.size w2 wr) (fun x _ => 5 - (intOf x).toNat)
  case atStart => exact ⟨0, by omega, rfl, rfl, Below.refl _ _⟩
  case round =>
   obtain ⟨e, he, rfl, hgo, hB⟩ := hrel
   obtain ⟨wo, rfl⟩ : ∃ x, x = wr := ⟨_, rfl⟩
   have Hgo := Lib.hid hgo
   have HBo := Lib.hid hB
   clear hgo hB
   by_cases h5 : e < 5
   ·have heI : (2 : Int) * e ≤ 8 := by omega
    have heJ : (e : Int) ≤ 4 := by omega
    have e5 : 5 - e = (5 - (e + 1)) + 1 := by omega
    have HE := Lib.hid (fun W (hb : Below wo.heap.size wo W) => rerrs_any W v2 (synd (bs s)) 52 e ((Hv2.out.below HBo.out).below hb) Hsl.out Hsb.out (by omega) (by omega))
    have Hnext : Hid (refTry (bs s) e = none → refGo (bs s) 5 0 = refGo (bs s) (5 - (e + 1)) (e + 1)) := Lib.hid (fun h => by rw [Hgo.out, e5, go_next h])
    have Hfnd : Hid (∀ c, refTry (bs s) e = some c → refGo (bs s) 5 0 = some (c, (differ (bs s) c).length)) := Lib.hid (fun c h => by rw [Hgo.out, e5, go_found h])
    clear Hgo e5
    go_upto_region 19 with (go_at_call 145; refine (HE.out _ (Below.refl _ _)).mono ?_; rintro x w3 ⟨v3, f3, rfl, hep, hb3⟩)
    have HB3 := Lib.hid (HBo.out.trans (hb3.mono HBo.out.size))
    clear hb3 HBo HE
    cases hE : errsR (synd (bs s)) 52 e with
    | none =>
     rw [hE] at hep
     have hf : f3 = .bool false := hep
     subst hf
     have Hnx := Lib.hid (Hnext.out (try_none1 (by rw [Hbl.out]; exact hE)))
     clear hE hep Hnext Hfnd
     go_wp2
     go_roundw
     case rel => exact ⟨e + 1, by omega, by go_num, Hnx.out, HB3.out⟩
     case measure => simp [intOf]; omega
    | some at_ =>
     rw [hE] at hep
     obtain ⟨hf, hat⟩ := hep
     subst hf
     obtain ⟨hal, hac⟩ := errsR_ok hE
     have hE2 : errsR (synd (bs s)) (bs s).length e = some at_ := by rw [Hbl.out]; exact hE
     have Hn2 := Lib.hid (fun h => Hnext.out (try_none2 hE2 h))
     have Hs2 := Lib.hid (fun c h => try_some (c := c) hE2 h)
     have Hvo := Lib.hid (fun c h => valR_ok (c := c) Hby.out (show at_.length ≤ 8 by omega) h)
     have HV := Lib.hid (fun W (hb : Below w2.heap.size w2 W) vv (ha : NatsAt W vv at_) => rvals_any W s v1 vv at_ hs (Hv1.out.below hb) ha (by omega) hac)
     have Hat3 : Hid (NatsAt w3 v3 at_) := Lib.hid hat
     have HK0 := Lib.hid (own_empty w3 3 1)
     have hle : w3.heap.size ≤ (w3.alloc (.cells #[] 3)).heap.size := by simp
     have h1 := one_nats at_
     have hl1 : (at_.map natV).length ≤ 8 := by rw [List.length_map]; omega
     have h0 : ∀ u ∈ ([] : List Value), u.oneCell' = true := fun u hu => by cases hu
     have hn0 : 0 + ([] : List Value).length ≤ 1000000 := by simp
     clear hE hE2 hat hac
     go_upto_region 20 with fail
     go_upto_region 21 with (first
      | (at_builtin; refine wpList_appendV _ Tryz.underlying70 Tryz.infoInt rfl (by omega) rfl _ _ rfl w3.heap.size _ 0 [] rfl _ rfl HK0.out [] (VAt.nil _) h0 hn0 hle ?_; intro va wa hoa _ _ hba; have HKa := Lib.hid hoa; have HBa := Lib.hid (((Below.refl w3.heap.size w3).alloc (Nat.le_refl _) (.cells #[] 3)).trans hba); have Hata : Hid (VAt wa v3 (at_.map natV)) := Lib.hid (SlAt.vAt (f := natV) (NatsAt.below Hat3.out HBa.out)); clear hoa hba)
      | (at_builtin; refine wpList_appendV _ Tryz.underlying70 Tryz.infoInt rfl (by omega) rfl _ _ rfl w3.heap.size _ 0 [] rfl _ rfl HKa.out _ Hata.out h1 (by omega) HBa.out.size ?_; intro vb wb hob _ _ hbb; have HNb : Hid (NatsAt wb vb at_) := Lib.hid (SlAt.of_own (n := at_.length) (t := 3) (base := w3.heap.size) (by simpa using hob)); have HBb := Lib.hid (HBa.out.trans hbb); clear hob hbb)
      | (go_at_call 146; refine (HV.out _ (HB3.out.trans (HBb.out.mono HB3.out.size)) _ HNb.out).mono ?_; rintro x w5 ⟨v5, f5, rfl, hvp, hb5⟩))
     have HB5 := Lib.hid (HB3.out.trans ((HBb.out.trans (hb5.mono HBb.out.size)).mono HB3.out.size))
     clear hb5 HBb HBa HB3 HV Hat3 HNb HKa HK0 Hata
     cases hV : valR (bs s) at_ with
     | none =>
      rw [hV] at hvp
      have hf : f5 = .bool false := hvp
      subst hf
      have Hnx := Lib.hid (Hn2.out hV)
      clear hV hvp Hnext Hfnd Hn2 Hs2 Hvo
      go_wp2
      go_roundw
      case rel => exact ⟨e + 1, by omega, by go_num, Hnx.out, HB5.out⟩
      case measure => simp [intOf]; omega
     | some c =>
      rw [hV] at hvp
      obtain ⟨hf, hv5⟩ := hvp
      subst hf hv5
      obtain ⟨hcl, hcb⟩ := Hvo.out c hV
      have hbc : bs (strB c) = c := bs_strB hcb
      have hcz : (strB c).size = 52 := by rw [strB_size, hcl, Hbl.out]
      have HIs := Lib.hid (fun W => r7is_any W (strB c) hcz)
      rw [hbc] at HIs
      have HLo := Lib.hid (fun W => r8loc_any W s (strB c) (by omega) (by omega))
      rw [hbc] at HLo
      have ht := Hs2.out c hV
      by_cases hz : synd c = List.replicate 8 0
      ·rw [if_pos hz] at ht
       rw [decide_eq_true hz] at HIs
       have HRr := Lib.hid (HR2.out c _ (Hfnd.out c ht))
       clear hV ht hz hbc hcz hcl hcb Hnext Hfnd Hn2 Hs2 Hvo HR1 HR2
       generalize strB c = C at *
       generalize (differ (bs s) c).length = d at *
       go_wp2_with (first | (go_at_call 147; refine (HIs.out _).mono ?_; rintro x w6 ⟨rfl, hb6⟩; have HB6 := Lib.hid (HB5.out.trans (hb6.mono HB5.out.size)); clear hb6) | (go_at_call 148; refine (HLo.out _).mono ?_; rintro x w7 ⟨AL, cL, rfl, hb7⟩; have HB7 := Lib.hid (HB6.out.trans (hb7.mono HB6.out.size)); clear hb7))
       exact bodyPost_ret (v := .tuple #[.string C, .int .i64 (d : Int), .int .i64 0]) (by simp [results, Tryz.results83, go_sem]) rfl ⟨by rw [HRr.out], HB2.out.trans (HB7.out.mono HB2.out.size)⟩
      ·rw [if_neg hz] at ht
       rw [decide_eq_false hz] at HIs
       have Hnx := Lib.hid (Hnext.out ht)
       clear hV ht hz hbc hcz hcl hcb Hnext Hfnd Hn2 Hs2 Hvo HLo
       generalize strB c = C at *
       go_wp2_with (go_at_call 147; refine (HIs.out _).mono ?_; rintro x w6 ⟨rfl, hb6⟩; have HB6 := Lib.hid (HB5.out.trans (hb6.mono HB5.out.size)); clear hb6)
       go_roundw
       case rel => exact ⟨e + 1, by omega, by go_num, Hnx.out, HB6.out⟩
       case measure => simp [intOf]; omega
   ·obtain rfl : e = 5 := by omega
    have HRr := Lib.hid (HR1.out Hgo.out)
    go_wp2
    exact bodyPost_ret (v := .tuple #[.string ⟨#[]⟩, .int .i64 0, .int .i64 11]) (by simp [results, Tryz.results83, go_sem]) rfl ⟨by rw [HRr.out], HB2.out.trans (HBo.out.mono HB2.out.size)⟩

end Go.Proofs.YtnlnmfkmbpihhaaGreatDoor
