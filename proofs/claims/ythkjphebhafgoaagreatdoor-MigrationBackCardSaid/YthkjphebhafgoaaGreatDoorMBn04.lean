/-
  Joined: VoB VoC VoE VoF.
-/
import Derived.Test.YthkjphebhafgoaaGreatDoorMBn03
set_option linter.all false
set_option maxRecDepth 100000
set_option maxHeartbeats 64000000
namespace Go.Proofs.YthkjphebhafgoaaGreatDoor
section
open Go.RowKit
theorem infoV_parts {o : Option TypeInfo} {z : Option Value} {n m : Nat} (h : o.map (fun i => (i.zero, i.size, i.bytes)) = some (z, n, m)) : ∃ i, o = some i ∧ i.zero = z ∧ i.size = n ∧ i.bytes = m := by
 cases o with
 | none => cases h
 | some i =>
  simp only [Option.map_some, Option.some.injEq, Prod.mk.injEq] at h
  exact ⟨i, rfl, h.1, h.2.1, h.2.2⟩
def splitG : List Nat → List Nat → List (List Nat)
 | p, [] => [p]
 | p, c :: r => if c = 47 then p :: splitG [] r else splitG (p ++ [c]) r
def elemsL (s : List Nat) : List (List Nat) := if s = [] then [] else splitG [] s
theorem splitG_sum : ∀ (r p : List Nat), (∀ x ∈ splitG p r, x.length ≤ p.length + r.length) ∧ (splitG p r).length ≤ r.length + 1
 | [], p => by simp [splitG]
 | c :: r, p => by
  rw [splitG]
  split
  ·obtain ⟨h1, h2⟩ := splitG_sum r []
   refine ⟨fun x hx => ?_, by simp; omega⟩
   rcases List.mem_cons.1 hx with rfl | hx
   ·omega
   ·have := h1 x hx
    simp at this ⊢
    omega
  ·obtain ⟨h1, h2⟩ := splitG_sum r (p ++ [c])
   refine ⟨fun x hx => ?_, by simp; omega⟩
   have := h1 x hx
   simp at this ⊢
   omega
theorem elemsL_size {s : List Nat} : (∀ x ∈ elemsL s, x.length ≤ s.length) ∧ (elemsL s).length ≤ s.length + 1 := by
 unfold elemsL
 split
 ·simp
 ·have := splitG_sum s []
  simpa using this
def okC (c : Nat) : Bool := decide (97 ≤ c ∧ c ≤ 122 ∨ 48 ≤ c ∧ c ≤ 57 ∨ c = 46 ∨ c = 95 ∨ c = 45)
def compB (p : List Nat) : Bool := decide (0 < p.length ∧ p.length ≤ 32 ∧ p ≠ [46] ∧ p ≠ [46, 46]) && p.all okC
def pathE (p : List Nat) : Int := if 200 < p.length then 6 else if 8 < (elemsL p).length then 6 else if (elemsL p).all compB then 0 else 7
theorem splitG_bytes : ∀ (r p : List Nat), (∀ b ∈ p, b < 256) → (∀ b ∈ r, b < 256) → ∀ x ∈ splitG p r, ∀ b ∈ x, b < 256
 | [], p, hp, _, x, hx => by
  rw [splitG, List.mem_singleton] at hx
  rw [hx]
  exact hp
 | c :: r, p, hp, hr, x, hx => by
  rw [splitG] at hx
  split at hx
  ·rcases List.mem_cons.1 hx with rfl | hx
   ·exact hp
   ·exact splitG_bytes r [] (fun b hb => nomatch hb) (fun b hb => hr b (List.mem_cons_of_mem _ hb)) x hx
  ·refine splitG_bytes r (p ++ [c]) (fun b hb => ?_) (fun b hb => hr b (List.mem_cons_of_mem _ hb)) x hx
   rcases List.mem_append.1 hb with hb | hb
   ·exact hp b hb
   ·rw [List.mem_singleton.1 hb]
    exact hr c List.mem_cons_self
theorem elemsL_bytes {s : List Nat} (hs : ∀ b ∈ s, b < 256) : ∀ x ∈ elemsL s, ∀ b ∈ x, b < 256 := by
 unfold elemsL
 split
 ·intro x hx; cases hx
 ·exact splitG_bytes s [] (fun b hb => nomatch hb) hs
def keyB (p : List Nat) : Bool := decide (1 ≤ p.length ∧ p.length ≤ 32) && p.all okC
def nameK (k : Int) : ByteArray :=
 if k = 1 then ⟨#[102, 105, 108, 101]⟩ else if k = 2 then ⟨#[100, 105, 114]⟩ else if k = 3 then ⟨#[108, 105, 110, 107]⟩ else if k = 4 then ⟨#[114, 101, 109, 111, 118, 101]⟩ else if k = 5 then ⟨#[104, 111, 108, 100]⟩ else if k = 6 then ⟨#[114, 101, 108, 101, 97, 115, 101]⟩ else ⟨#[]⟩
def digB (c : Nat) : Bool := decide (48 ≤ c ∧ c ≤ 57)
def valD (p : List Nat) : Nat := p.foldl (fun n c => 10 * n + (c - 48)) 0
def dateB (p : List Nat) : Bool := decide (1 ≤ p.length ∧ p.length ≤ 10 ∧ ¬ (1 < p.length ∧ cf p 0 = 48)) && (p.all digB && decide (valD p ≤ 1000000000))
def entV (e : Ent) (va vx : Value) : Value := .agg #[.int .i64 e.k, .string e.path, va, .string e.tgt, .int .i64 e.size, .string e.dig, vx]
def tgtB (e : Ent) : Bool := if e.k = 3 then decide (1 ≤ e.tgt.size ∧ e.tgt.size ≤ 200) else if e.k = 5 then dateB (bs e.tgt) else decide (e.tgt.size = 0)
end
end Go.Proofs.YthkjphebhafgoaaGreatDoor
