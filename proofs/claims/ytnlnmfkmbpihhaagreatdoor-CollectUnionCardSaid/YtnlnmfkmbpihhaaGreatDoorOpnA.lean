/-
 The arguments of layer 13's laws, opened; the world in which the witness starts.
 The arguments of layer 13's laws, opened: a byte; a slice of numbers.
-/
import Derived.Test.YtnlnmfkmbpihhaaGreatDoorTie
import Derived.Test.YtnlnmfkmbpihhaaGreatDoorFrB
import Derived.ChangeMaps5
import Derived.ProofKit
import Derived.OpenShut
import Derived.LaidMore
import Derived.Lay
import Derived.SevenTiedAt
import Derived.Stop.Joined
import Derived.Deep.Slices
namespace Go.Proofs.YtnlnmfkmbpihhaaGreatDoor
open Go.ChangeShapes Go.WideShapes Go.ChangeAt Go.RowKit

theorem ownN : ownKnob Tryz.prog.godebug = none := by kernel_rfl
theorem laidN : laidOutB Tryz.prog = true := by kernel_rfl
theorem cellsF : Tryz.prog.cellsOf 34 = 9 := by kernel_rfl
theorem cellsI : Tryz.prog.cellsOf 3 = 1 := by kernel_rfl
theorem cellsL : Tryz.prog.cellsOf 31 = 2 := by kernel_rfl
theorem cellsU32 : Tryz.prog.cellsOf 32 = 1 := by kernel_rfl
theorem cellsS : Tryz.prog.cellsOf 9 = 1 := by kernel_rfl
theorem list9 {α : Type} {l : List α} (h : l.length = 9) : ∃ c0 c1 c2 c3 c4 c5 c6 c7 c8, l = [c0, c1, c2, c3, c4, c5, c6, c7, c8] := by
 match l, h with
 | [c0, c1, c2, c3, c4, c5, c6, c7, c8], _ => exact ⟨c0, c1, c2, c3, c4, c5, c6, c7, c8, rfl⟩
theorem list8 {α : Type} {l : List α} (h : l.length = 8) : ∃ c0 c1 c2 c3 c4 c5 c6 c7, l = [c0, c1, c2, c3, c4, c5, c6, c7] := by
 match l, h with
 | [c0, c1, c2, c3, c4, c5, c6, c7], _ => exact ⟨c0, c1, c2, c3, c4, c5, c6, c7, rfl⟩
end Go.Proofs.YtnlnmfkmbpihhaaGreatDoor

namespace Go.Proofs.YtnlnmfkmbpihhaaGreatDoor
open Go.ChangeShapes Go.WideShapes Go.ChangeAt Go.RowKit Go.Deep

section
variable {H : Type} {enc : TypeId × Value → H} {w : World}
set_option maxRecDepth 100000 in
theorem open_slAt {α : Type} [Inhabited α] {R : World → Value → α → Prop} {T E : TypeId} {fuel : Nat} {v : Value} {x : DataW H × List MemPlace} (hT : Tryz.prog.underlying T = some (.slice E)) (hC : Tryz.prog.cellsOf E = 1)
  (h : DataW.trod enc Tryz.prog w 0 (fun _ => true) true fuel T [v] = some x)
  (hR : ∀ (u : Value) (n : Nat) (y : DataW H × List MemPlace), DataW.trod enc Tryz.prog w 0 (fun _ => true) true n E [u] = some y → ∃ z, R w u z) : ∃ xs, SlAt R w v xs := by
 rcases open_slice1 hT hC h with ⟨hcs, _⟩ | ⟨a, len, cap, m, n, V, D, Pl, hcs, _, hl, hm, hmm, _, hx⟩
 ·simp only [List.cons.injEq, and_true] at hcs
  exact ⟨[], none, 0, hcs, Nat.le_refl _, by omega, fun i x hx => by cases hx⟩
 ·simp only [List.cons.injEq, and_true] at hcs
  have hmc : m = cap := by simpa using hmm
  obtain ⟨f, hf⟩ := choose_lt (α := α) (n := len) (p := fun i z => R w (V i) z) fun i hi => hR _ _ _ (hx i (by omega)).2
  refine ⟨(List.range len).map f, some a, cap, by simpa using hcs, by simpa using hl, by unfold maxLen at hm; omega, fun i z hz => ?_⟩
  rw [List.getElem?_map] at hz
  obtain ⟨j, hj, rfl⟩ := Option.map_eq_some_iff.1 hz
  have hjl : i < len ∧ i = j := by
   have := List.getElem?_eq_some_iff.1 hj
   obtain ⟨h1, h2⟩ := this
   simp at h1 h2
   exact ⟨h1, h2⟩
  obtain ⟨hil, rfl⟩ := hjl
  obtain ⟨b, o, sp⟩ := a
  have hc0 := (hx 0 (by omega)).1
  have hspot : sp = none := by simpa [Addr.add] using World.cell?_spot hc0
  subst hspot
  refine ⟨b, o, V i, rfl, ?_, hf i hil⟩
  have hci := (hx i (by omega)).1
  rwa [Addr.add_lit] at hci
theorem nat_of_u8 {z : Int} (h : (Lit.int .u8 z).wf = true) : ∃ n : Nat, z = n ∧ n < 256 := by
 simp only [Lit.wf, IntKind.min, IntKind.max, IntKind.signed, IntKind.bits, Bool.and_eq_true] at h
 simp at h
 exact ⟨z.toNat, by omega, by omega⟩
set_option maxRecDepth 100000 in
theorem open_u8 {v : Value} {d : DataW H} {p : List MemPlace} {base : Nat} (hv : Value.okWide Tryz.prog w .any base 5 v) (h : DataW.Trod enc Tryz.prog w 0 (fun _ => true) true 5 v d p) : ∃ n : Nat, v = .int .u8 (n : Int) ∧ n < 256 := by
 obtain ⟨z, rfl, _, _, hw⟩ := open_int Tryz.underlying5 hv h
 obtain ⟨n, rfl, hn⟩ := nat_of_u8 hw
 exact ⟨n, rfl, hn⟩
def U16R (_ : World) (u : Value) (x : Nat) : Prop := u = .int .u16 (x : Int) ∧ x < 65536
end

end Go.Proofs.YtnlnmfkmbpihhaaGreatDoor
