/-
  Joined: VoP VoU VoD.
-/
import Derived.Test.YthkjphebhafgoaaGreatDoorMBn04
set_option linter.all false
set_option maxRecDepth 100000
set_option maxHeartbeats 64000000
namespace Go.Proofs.YthkjphebhafgoaaGreatDoor
section
open Go.RowKit
theorem SeqAt.take {α : Type} {ρ : Shape α} {W : World} {A : Option Addr} {n c m : Nat} {xs : List α} (h : SeqAt ρ W (.slice A n c) xs) (hm : m ≤ xs.length) : SeqAt ρ W (.slice A m c) (xs.take m) := by
 obtain ⟨A', c', e, h1, h2, h3⟩ := h
 cases e
 have hl : (xs.take m).length = m := by rw [List.length_take]; omega
 refine ⟨_, _, by rw [hl], by rw [hl]; omega, h2, fun i x hx => h3 i x ?_⟩
 rw [List.getElem?_take] at hx
 split at hx
 ·exact hx
 ·cases hx
structure Hol where
 p : ByteArray
 u : Int
def holS : Shape Hol where
 n := 2
 R _ cs x := cs = [.string x.p, .int .i64 x.u]
 len h := by rw [h]; rfl
 one h u hu := by
  rw [h] at hu
  simp only [List.mem_cons, List.not_mem_nil, or_false] at hu
  rcases hu with rfl | rfl <;> rfl
 keep h _ := h
def digD (u : Nat) : List Nat := if u < 10 then [48 + u] else digD (u / 10) ++ digD (u % 10)
termination_by u
decreasing_by all_goals omega
theorem digD_small {u : Nat} (h : u < 10) : digD u = [48 + u] := by rw [digD, if_pos h]
theorem digD_great {u : Nat} (h : ¬ u < 10) : digD u = digD (u / 10) ++ digD (u % 10) := by rw [digD, if_neg h]
theorem digD_len : ∀ (n u : Nat), u < 10 ^ (n + 1) → (digD u).length ≤ n + 1 := by
 intro n
 induction n with
 | zero =>
  intro u h
  rw [digD_small (by simpa using h)]
  simp
 | succ n ih =>
  intro u h
  by_cases h1 : u < 10
  ·rw [digD_small h1]; simp
  ·rw [digD_great h1, List.length_append, digD_small (u := u % 10) (by omega)]
   have := ih (u / 10) (by rw [Nat.pow_succ] at h; omega)
   simp
   omega
theorem digD_bytes : ∀ (u : Nat), ∀ b ∈ digD u, 48 ≤ b ∧ b < 58 := by
 intro u
 induction u using Nat.strongRecOn with
 | _ u ih =>
  intro b hb
  by_cases h1 : u < 10
  ·rw [digD_small h1, List.mem_singleton] at hb
   omega
  ·rw [digD_great h1] at hb
   rcases List.mem_append.1 hb with hb | hb
   ·exact ih (u / 10) (by omega) b hb
   ·exact ih (u % 10) (by omega) b hb
theorem digD_len20 {u : Nat} (h : u < 18446744073709551616) : (digD u).length ≤ 20 := digD_len 19 u (by omega)
def numL (n : Nat) : List Nat := digD n ++ [32]
def nstL (s : List Nat) : List Nat := digD s.length ++ [58] ++ s ++ [44]
end
end Go.Proofs.YthkjphebhafgoaaGreatDoor
