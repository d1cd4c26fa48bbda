/-
  Joined: GfA.
-/
import Derived.Test.YtbccghbngaiceaaGreatDoorMMnL
import Derived.Deep.AppendLies
import Derived.WalkSpells
import Derived.WalkLawsBesides
import Derived.BigQuiet
import Derived.Test.YtbccghbngaiceaaGreatDoorProg
set_option linter.all false
set_option maxRecDepth 100000
set_option maxHeartbeats 64000000
namespace Go.Proofs.YtbccghbngaiceaaGreatDoor
section
def dbl8 (a : Nat) : Nat := if 128 ≤ a then (2 * a) % 256 ^^^ 29 else 2 * a
def gmulL : Nat → Nat → Nat → Nat → Nat
 | 0, s, _, _ => s
 | k + 1, s, a, b => if b = 0 then s else gmulL k (if b % 2 = 1 then s ^^^ a else s) (dbl8 a) (b / 2)
def gmul (a b : Nat) : Nat := gmulL 8 0 a b
end
section
open Go.RowKit
def SlAt {α : Type} (R : World → Value → α → Prop) (w : World) (v : Value) (xs : List α) : Prop :=
 ∃ (A : Option Addr) (c : Nat), v = .slice A xs.length c ∧ xs.length ≤ c ∧ c ≤ 9223372036854775807 ∧
  ∀ i x, xs[i]? = some x → ∃ b o u, A = some ⟨b, o, none⟩ ∧ w.cell? ⟨b, o + i, none⟩ = some u ∧ R w u x
def PlainR {α : Type} (f : α → Value) (_ : World) (u : Value) (x : α) : Prop := u = f x
section
variable {α : Type} {R : World → Value → α → Prop} {w w' : World} {v : Value} {xs : List α}
theorem cell_below {p : Addr} {u : Value} (hb : Below w.heap.size w w') (h : w.cell? p = some u) : w'.cell? p = some u :=
 (hb.cell (World.block_lt_of_cell? _ _ h)).trans h
end
end
section
open Go.RowKit
theorem ret_num {k : IntKind} {a b : Int} (h : a = b) : Ending.returned (.int k a) = .returned (.int k b) := by rw [h]
end
end Go.Proofs.YtbccghbngaiceaaGreatDoor
