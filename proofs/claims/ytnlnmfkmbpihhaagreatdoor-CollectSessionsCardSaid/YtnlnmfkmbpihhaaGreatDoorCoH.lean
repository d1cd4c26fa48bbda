/-
 PLAIN: the sessions of a collection, in increasing order. WALKS: collect.Sessions, steleref44.Sessions, SameInts.
-/
import Derived.Test.YtnlnmfkmbpihhaaGreatDoorCoF
import Derived.Lib.OwnBridge
import Derived.Lib.RowBridge
import Derived.Shelf.Sort.Plain
import Derived.Shelf.Slices.In.SortNone
import Derived.Shelf.Slices.CompactI
namespace Go.Proofs.YtnlnmfkmbpihhaaGreatDoor
open Go.RowKit Go.Shelf

/-- Increasing lists with the same members are one. -/
theorem inc_ext : ∀ {a b : List Int}, a.Pairwise (· < ·) → b.Pairwise (· < ·) → (∀ x, x ∈ a ↔ x ∈ b) → a = b
 | [], [], _, _, _ => rfl
 | [], y :: r, _, _, h => absurd ((h y).2 List.mem_cons_self) (by simp)
 | x :: r, [], _, _, h => absurd ((h x).1 List.mem_cons_self) (by simp)
 | x :: a, y :: b, h1, h2, h => by
  obtain ⟨p1, p2⟩ := List.pairwise_cons.1 h1
  obtain ⟨q1, q2⟩ := List.pairwise_cons.1 h2
  have e : x = y := by
   rcases List.mem_cons.1 ((h x).1 List.mem_cons_self) with e | e
   ·exact e
   ·rcases List.mem_cons.1 ((h y).2 List.mem_cons_self) with e2 | e2
    ·exact e2.symm
    ·have := q1 x e
     have := p1 y e2
     omega
  subst e
  congr 1
  refine inc_ext p2 q2 fun z => ⟨fun hz => ?_, fun hz => ?_⟩
  ·rcases List.mem_cons.1 ((h z).1 (List.mem_cons_of_mem _ hz)) with e | e
   ·have := p1 z hz; omega
   ·exact e
  ·rcases List.mem_cons.1 ((h z).2 (List.mem_cons_of_mem _ hz)) with e | e
   ·have := q1 z hz; omega
   ·exact e
theorem compact_inc (d : Array Int) (hs : ∀ j, 0 < j → j < d.size → d[j - 1]! ≤ d[j]!) : ∀ m, m ≤ d.size →
  (Lib.compactUpTo d m).Pairwise (· < ·) ∧ (∀ x, x ∈ Lib.compactUpTo d m ↔ ∃ j, j < m ∧ d[j]! = x) ∧ ∀ x ∈ Lib.compactUpTo d m, x ≤ d[m - 1]!
 | 0, _ => ⟨by simp [Lib.compactUpTo], by simp [Lib.compactUpTo], by simp [Lib.compactUpTo]⟩
 | m + 1, hm => by
  obtain ⟨h1, h2, h3⟩ := compact_inc d hs m (by omega)
  rw [Lib.compactUpTo_succ, Nat.add_sub_cancel]
  have hle : ∀ x ∈ Lib.compactUpTo d m, x ≤ d[m]! := fun x hx => by
   obtain ⟨j, hj, _⟩ := (h2 x).1 hx
   have a := h3 x hx
   have b := hs m (by omega) (by omega)
   omega
  by_cases hk : Lib.keeps d m = true
  ·rw [if_pos hk]
   refine ⟨List.pairwise_append.2 ⟨h1, List.pairwise_singleton _ _, fun x hx y hy => ?_⟩, fun x => ?_, fun x hx => ?_⟩
   ·rw [List.mem_singleton.1 hy]
    obtain ⟨j, hj, _⟩ := (h2 x).1 hx
    unfold Lib.keeps at hk
    have hk2 := of_decide_eq_true hk
    have a := h3 x hx
    have b := hs m (by omega) (by omega)
    rcases hk2 with e | e
    ·omega
    ·omega
   ·rw [List.mem_append, List.mem_singleton, h2]
    constructor
    ·rintro (⟨j, hj, e⟩ | e)
     ·exact ⟨j, by omega, e⟩
     ·exact ⟨m, by omega, e.symm⟩
    ·rintro ⟨j, hj, e⟩
     by_cases hjm : j = m
     ·subst hjm; exact .inr e.symm
     ·exact .inl ⟨j, by omega, e⟩
   ·rcases List.mem_append.1 hx with hx | hx
    ·exact hle x hx
    ·rw [List.mem_singleton.1 hx]; omega
  ·rw [if_neg hk, List.append_nil]
   refine ⟨h1, fun x => ?_, hle⟩
   have hk2 : ¬ (m = 0 ∨ d[m]! ≠ d[m - 1]!) := fun e => hk (by unfold Lib.keeps; exact decide_eq_true e)
   have e1 : m ≠ 0 := fun e => hk2 (.inl e)
   have e2 : d[m]! = d[m - 1]! := Decidable.byContradiction fun e => hk2 (.inr e)
   rw [h2]
   constructor
   ·rintro ⟨j, hj, e⟩
    exact ⟨j, by omega, e⟩
   ·rintro ⟨j, hj, e⟩
    by_cases hjm : j = m
    ·subst hjm; exact ⟨j - 1, by omega, by rw [← e2]; exact e⟩
    ·exact ⟨j, by omega, e⟩
/-- The sessions, in increasing order. -/
def sessL (zs : List Int) : List Int := Lib.compact (zs.mergeSort fun x y => decide (x ≤ y))
theorem sessL_spec (zs : List Int) : (sessL zs).Pairwise (· < ·) ∧ ∀ x, x ∈ sessL zs ↔ x ∈ zs := by
 obtain ⟨L, hL⟩ : ∃ L, (zs.mergeSort fun x y => decide (x ≤ y)) = L := ⟨_, rfl⟩
 have hp : L.Perm zs := by rw [← hL]; exact List.mergeSort_perm _ _
 have hso : L.Pairwise fun x y => x ≤ y := by
  have h := List.pairwise_mergeSort (le := fun x y : Int => decide (x ≤ y)) (fun a b c h1 h2 => by simp at *; omega) (fun a b => by simp; omega) zs
  rw [hL] at h
  exact h.imp fun h => by simpa using h
 unfold sessL Lib.compact
 rw [hL]
 obtain ⟨h1, h2, _⟩ := compact_inc L.toArray (fun j hj hl => by
  simp only [List.size_toArray] at hl
  have a : (L.toArray)[j]! = L[j]'hl := by simp [hl]
  have b : (L.toArray)[j - 1]! = L[j - 1]'(by omega) := by
   have : j - 1 < L.length := by omega
   simp [this]
  rw [a, b]
  exact List.pairwise_iff_getElem.1 hso (j - 1) j (by omega) hl (by omega)) L.length (by simp)
 refine ⟨h1, fun x => ?_⟩
 rw [h2, ← hp.mem_iff, List.mem_iff_getElem]
 constructor
 ·rintro ⟨j, hj, e⟩
  exact ⟨j, hj, by rw [← e]; simp [hj]⟩
 ·rintro ⟨j, hj, e⟩
  exact ⟨j, hj, by rw [← e]; simp [hj]⟩
/-- One number of those laid so far looked at, as steleref44.Sessions does. -/
def insD (s : Int) (a : Bool × List Int) (o : Int) : Bool × List Int :=
 (a.1 || decide (s ≤ o), if o ≠ s then (if !a.1 && decide (s ≤ o) then a.2 ++ [s] else a.2) ++ [o] else if !a.1 && decide (s ≤ o) then a.2 ++ [s] else a.2)
def insF (s : Int) (out : List Int) : List Int := if (out.foldl (insD s) (false, [])).1 then (out.foldl (insD s) (false, [])).2 else (out.foldl (insD s) (false, [])).2 ++ [s]
def refS (zs : List Int) : List Int := zs.foldl (fun out s => insF s out) []
theorem insD_inv (s : Int) : ∀ (suf pre : List Int) (a : Bool × List Int), (pre ++ suf).Pairwise (· < ·) → a.2.Pairwise (· < ·) → (∀ x, x ∈ a.2 ↔ x ∈ pre ∨ (a.1 = true ∧ x = s)) → (a.1 = true ↔ ∃ o ∈ pre, s ≤ o) →
  (suf.foldl (insD s) a).2.Pairwise (· < ·) ∧ (∀ x, x ∈ (suf.foldl (insD s) a).2 ↔ x ∈ pre ++ suf ∨ ((suf.foldl (insD s) a).1 = true ∧ x = s)) ∧ ((suf.foldl (insD s) a).1 = true ↔ ∃ o ∈ pre ++ suf, s ≤ o)
 | [], pre, a, _, h2, h3, h4 => by simpa using ⟨h2, h3, h4⟩
 | o :: r, pre, a, h1, h2, h3, h4 => by
  have hlt : ∀ x ∈ pre, x < o := fun x hx => (List.pairwise_append.1 h1).2.2 x hx o List.mem_cons_self
  have h1' : ((pre ++ [o]) ++ r).Pairwise (· < ·) := by simpa using h1
  obtain ⟨b, hb⟩ : ∃ b, insD s a o = b := ⟨_, rfl⟩
  have key : b.2.Pairwise (· < ·) ∧ (∀ x, x ∈ b.2 ↔ x ∈ pre ++ [o] ∨ (b.1 = true ∧ x = s)) ∧ (b.1 = true ↔ ∃ y ∈ pre ++ [o], s ≤ y) := by
   obtain ⟨dn, nx⟩ := a
   dsimp only at h2 h3 h4
   subst hb
   unfold insD
   dsimp only
   cases dn with
   | true =>
    obtain ⟨y, hy, hsy⟩ := h4.1 rfl
    have hso : s < o := by have := hlt y hy; omega
    rw [if_pos (by omega : o ≠ s)]
    simp only [Bool.not_true, Bool.false_and, Bool.false_eq_true, if_false, Bool.true_or, true_and]
    refine ⟨List.pairwise_append.2 ⟨h2, List.pairwise_singleton _ _, fun x hx z hz => ?_⟩, fun x => ?_, ⟨fun _ => ⟨y, by simp [hy], hsy⟩, fun _ => trivial⟩⟩
    ·rw [List.mem_singleton.1 hz]
     rcases (h3 x).1 hx with h | ⟨_, h⟩
     ·exact hlt x h
     ·omega
    ·rw [List.mem_append, h3]
     simp
     grind
   | false =>
    have hpre : ∀ x ∈ pre, x < s := fun x hx => by
     have : ¬ s ≤ x := fun e => by have := h4.2 ⟨x, hx, e⟩; cases this
     omega
    by_cases hso : s ≤ o
    ·simp only [hso, decide_true, Bool.not_false, Bool.and_self, if_true, Bool.or_true, true_and]
     have hn1 : (nx ++ [s]).Pairwise (· < ·) := List.pairwise_append.2 ⟨h2, List.pairwise_singleton _ _, fun x hx z hz => by
      rw [List.mem_singleton.1 hz]
      rcases (h3 x).1 hx with h | ⟨h, _⟩
      ·exact hpre x h
      ·cases h⟩
     by_cases ho : o = s
     ·subst ho
      rw [if_neg (by simp)]
      refine ⟨hn1, fun x => ?_, ⟨fun _ => ⟨o, by simp, by omega⟩, fun _ => trivial⟩⟩
      rw [List.mem_append, h3]
      simp
     ·rw [if_pos ho]
      refine ⟨List.pairwise_append.2 ⟨hn1, List.pairwise_singleton _ _, fun x hx z hz => ?_⟩, fun x => ?_, ⟨fun _ => ⟨o, by simp, hso⟩, fun _ => trivial⟩⟩
      ·rw [List.mem_singleton.1 hz]
       rcases List.mem_append.1 hx with hx | hx
       ·rcases (h3 x).1 hx with h | ⟨h, _⟩
        ·exact hlt x h
        ·cases h
       ·rw [List.mem_singleton.1 hx]; omega
      ·rw [List.mem_append, List.mem_append, h3]
       simp
       grind
    ·simp only [hso, decide_false, Bool.and_false, Bool.false_eq_true, if_false, Bool.or_false, false_and, or_false]
     rw [if_pos (by omega : o ≠ s)]
     refine ⟨List.pairwise_append.2 ⟨h2, List.pairwise_singleton _ _, fun x hx z hz => ?_⟩, fun x => ?_, ⟨fun h => (by cases h), ?_⟩⟩
     ·rw [List.mem_singleton.1 hz]
      rcases (h3 x).1 hx with h | ⟨h, _⟩
      ·exact hlt x h
      ·cases h
     ·rw [List.mem_append, List.mem_append, h3]
      simp
     ·rintro ⟨y, hy, hsy⟩
      rcases List.mem_append.1 hy with hy | hy
      ·have := hpre y hy; omega
      ·rw [List.mem_singleton.1 hy] at hsy; omega
  rw [List.foldl_cons, hb]
  have h := insD_inv s r (pre ++ [o]) b h1' key.1 key.2.1 key.2.2
  simpa using h
theorem insF_spec (s : Int) {out : List Int} (h : out.Pairwise (· < ·)) : (insF s out).Pairwise (· < ·) ∧ ∀ x, x ∈ insF s out ↔ x = s ∨ x ∈ out := by
 obtain ⟨h1, h2, h3⟩ := insD_inv s out [] (false, []) (by simpa using h) List.Pairwise.nil (by simp) (by simp)
 rw [List.nil_append] at h2 h3
 unfold insF
 generalize out.foldl (insD s) (false, []) = r at *
 obtain ⟨dn, nx⟩ := r
 dsimp only at *
 cases dn with
 | true =>
  rw [if_pos rfl]
  refine ⟨h1, fun x => ?_⟩
  rw [h2]
  simp
  grind
 | false =>
  rw [if_neg (by simp)]
  refine ⟨List.pairwise_append.2 ⟨h1, List.pairwise_singleton _ _, fun x hx y hy => ?_⟩, fun x => ?_⟩
  ·rw [List.mem_singleton.1 hy]
   have hx2 : x ∈ out := by
    rcases (h2 x).1 hx with h | ⟨h, _⟩
    ·exact h
    ·cases h
   have : ¬ s ≤ x := fun e => by have := h3.2 ⟨x, hx2, e⟩; cases this
   omega
  ·rw [List.mem_append, h2]
   simp
   grind
theorem refS_spec : ∀ (zs out : List Int), out.Pairwise (· < ·) → (zs.foldl (fun out s => insF s out) out).Pairwise (· < ·) ∧ ∀ x, x ∈ zs.foldl (fun out s => insF s out) out ↔ x ∈ zs ∨ x ∈ out
 | [], out, h => ⟨h, fun x => by simp⟩
 | s :: r, out, h => by
  obtain ⟨h1, h2⟩ := insF_spec s h
  obtain ⟨h3, h4⟩ := refS_spec r _ h1
  refine ⟨h3, fun x => ?_⟩
  rw [List.foldl_cons, h4, h2, List.mem_cons]
  grind
theorem refS_eq (zs : List Int) : refS zs = sessL zs := by
 obtain ⟨h1, h2⟩ := refS_spec zs [] List.Pairwise.nil
 obtain ⟨h3, h4⟩ := sessL_spec zs
 exact inc_ext h1 h3 fun x => by
  rw [h4]
  show x ∈ zs.foldl (fun out s => insF s out) [] ↔ _
  rw [h2]
  simp
end Go.Proofs.YtnlnmfkmbpihhaaGreatDoor
