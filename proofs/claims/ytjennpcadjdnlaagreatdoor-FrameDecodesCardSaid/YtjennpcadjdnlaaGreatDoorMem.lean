/-
  Plain words for memory: a slice that reads as a list; how it abides.
-/
import Derived.Below
import Derived.Laws.OwnMore
import Derived.Deep.AppendLies
import Derived.Deep.Draws
namespace Go.Proofs.YtjennpcadjdnlaaGreatDoor
open Go.RowKit

/-- Slice value v reads, in world w, as the list xs, each element's cell value u by R. -/
def SlAt {α : Type} (R : World → Value → α → Prop) (w : World) (v : Value) (xs : List α) : Prop :=
  ∃ (A : Option Addr) (c : Nat), v = .slice A xs.length c ∧ xs.length ≤ c ∧ c ≤ 9223372036854775807 ∧
    ∀ i x, xs[i]? = some x → ∃ b o u, A = some ⟨b, o, none⟩ ∧ w.cell? ⟨b, o + i, none⟩ = some u ∧ R w u x

/-- An element that is plain data of one cell. -/
def PlainR {α : Type} (f : α → Value) (_ : World) (u : Value) (x : α) : Prop := u = f x

abbrev intV (x : Int) : Value := .int .i64 x
abbrev boolV (x : Bool) : Value := .bool x
abbrev IntsAt (w : World) (v : Value) (xs : List Int) : Prop := SlAt (PlainR intV) w v xs
abbrev BoolsAt (w : World) (v : Value) (xs : List Bool) : Prop := SlAt (PlainR boolV) w v xs
abbrev RowsAt (w : World) (v : Value) (m : List (List Bool)) : Prop := SlAt (fun w u r => BoolsAt w u r) w v m

section
variable {α : Type} {R : World → Value → α → Prop} {w w' : World} {v : Value} {xs : List α}
theorem SlAt.keep (h : SlAt R w v xs) (hk : ∀ p u, w.cell? p = some u → w'.cell? p = some u) (hR : ∀ u x, R w u x → R w' u x) : SlAt R w' v xs := by
  obtain ⟨A, c, hv, h1, h2, h3⟩ := h
  refine ⟨A, c, hv, h1, h2, fun i x hi => ?_⟩
  obtain ⟨b, o, u, hA, hc, hr⟩ := h3 i x hi
  exact ⟨b, o, u, hA, hk _ _ hc, hR _ _ hr⟩
theorem plainR_keep {f : α → Value} (u : Value) (x : α) (h : PlainR f w u x) : PlainR f w' u x := h
/-- What is read in w is read behind whatever leaves w's blocks alone. -/
theorem cell_below {p : Addr} {u : Value} (hb : Below w.heap.size w w') (h : w.cell? p = some u) : w'.cell? p = some u :=
  (hb.cell (World.block_lt_of_cell? _ _ h)).trans h
end
theorem IntsAt.below {w w' : World} {v : Value} {xs : List Int} (h : IntsAt w v xs) (hb : Below w.heap.size w w') : IntsAt w' v xs :=
  SlAt.keep h (fun _ _ => cell_below hb) plainR_keep
theorem BoolsAt.below {w w' : World} {v : Value} {xs : List Bool} (h : BoolsAt w v xs) (hb : Below w.heap.size w w') : BoolsAt w' v xs :=
  SlAt.keep h (fun _ _ => cell_below hb) plainR_keep
theorem RowsAt.below {w w' : World} {v : Value} {xs : List (List Bool)} (h : RowsAt w v xs) (hb : Below w.heap.size w w') : RowsAt w' v xs :=
  SlAt.keep h (fun _ _ => cell_below hb) fun _ _ k => BoolsAt.below k hb

end Go.Proofs.YtjennpcadjdnlaaGreatDoor
