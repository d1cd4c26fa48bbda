/-
  PLAIN: the cells of bytes.
-/
import Derived.Test.YtjennpcadjdnlaaGreatDoorEncA
namespace Go.Proofs.YtjennpcadjdnlaaGreatDoor
open Go.RowKit

/-- Cell k of a byte. -/
def byC (b k : Nat) : Nat := 48 + b / 2 ^ (7 - k) % 2
def byCs (b : Nat) : List Nat := (List.range 8).map (byC b)
def frmB (l : List Nat) : List Nat := l.flatMap byCs
theorem byCs_len (b : Nat) : (byCs b).length = 8 := by unfold byCs; rw [List.length_map, List.length_range]
theorem frmB_snoc (l : List Nat) (b : Nat) : frmB (l ++ [b]) = frmB l ++ byCs b := by unfold frmB; rw [List.flatMap_append]; simp
theorem frmB_len : ∀ l : List Nat, (frmB l).length = 8 * l.length
  | [] => rfl
  | b :: r => by
    have := frmB_len r
    unfold frmB at this ⊢
    rw [List.flatMap_cons, List.length_append, byCs_len, this, List.length_cons]
    omega
theorem frmB_01 (l : List Nat) : B01 (frmB l) := by
  intro c hc
  unfold frmB byCs at hc
  obtain ⟨b, _, hc⟩ := List.mem_flatMap.1 hc
  obtain ⟨k, _, rfl⟩ := List.mem_map.1 hc
  unfold byC
  omega
theorem u8_sh1 : ∀ (j : Fin 8) (b : Fin 256), bits .and .u8 ((b.val : Int) / (2 : Int) ^ j.val) 1 = ((b.val / 2 ^ j.val % 2 : Nat) : Int) := by decide +kernel

end Go.Proofs.YtjennpcadjdnlaaGreatDoor
