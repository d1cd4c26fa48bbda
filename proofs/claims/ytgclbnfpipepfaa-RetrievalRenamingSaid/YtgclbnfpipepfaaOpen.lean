/-
  The arguments of layer 56's laws, opened; the row's step for a law that writes nothing that was there.
-/
import Derived.Test.YtgclbnfpipepfaaAlive
import Derived.ProofKit
import Derived.OpenShut
import Derived.ShutString
import Derived.ChangeOld
import Derived.Deep.Slices
namespace Go.Proofs.Ytgclbnfpipepfaa
open Go.ChangeShapes Go.WideShapes Go.ChangeAt Go.RowKit Go.Deep

theorem ownN : ownKnob Try.prog.godebug = none := by kernel_rfl
theorem laidN : laidOutB Try.prog = true := by kernel_rfl

section
variable {H : Type} {enc : TypeId × Value → H} {w : World}
theorem open_slAt {α : Type} [Inhabited α] {R : World → Value → α → Prop} {T E : TypeId} {fuel : Nat} {v : Value} {x : DataW H × List MemPlace} (hT : Try.prog.underlying T = some (.slice E)) (hC : Try.prog.cellsOf E = 1)
    (h : DataW.trod enc Try.prog w 0 (fun _ => true) true fuel T [v] = some x)
    (hR : ∀ (u : Value) (n : Nat) (y : DataW H × List MemPlace), DataW.trod enc Try.prog w 0 (fun _ => true) true n E [u] = some y → ∃ z, R w u z) : ∃ xs, SlAt R w v xs := by
  rcases open_slice1 hT hC h with ⟨hcs, _⟩ | ⟨a, len, cap, m, n, V, D, Pl, hcs, _, hl, hm, hmm, _, hx⟩
  · simp only [List.cons.injEq, and_true] at hcs
    exact ⟨[], none, 0, hcs, Nat.le_refl _, by omega, fun i x hx => by cases hx⟩
  · simp only [List.cons.injEq, and_true] at hcs
    have hmc : m = cap := by simpa using hmm
    obtain ⟨f, hf⟩ := choose_lt (α := α) (n := len) (p := fun i z => R w (V i) z) fun i hi => hR _ _ _ (hx i (by omega)).2
    refine ⟨(List.range len).map f, some a, cap, by simpa using hcs, by simpa using hl, by unfold maxLen at hm; omega, fun i z hz => ?_⟩
    rw [List.getElem?_map] at hz
    obtain ⟨j, hj, rfl⟩ := Option.map_eq_some_iff.1 hz
    have hjl : i < len ∧ i = j := by
      have := List.getElem?_eq_some_iff.1 hj
      obtain ⟨h1, h2⟩ := this
      simp at h1 h2
      exact ⟨h1, h2⟩
    obtain ⟨hil, rfl⟩ := hjl
    obtain ⟨b, o, sp⟩ := a
    have hc0 := (hx 0 (by omega)).1
    have hspot : sp = none := by simpa [Addr.add] using World.cell?_spot hc0
    subst hspot
    refine ⟨b, o, V i, rfl, ?_, hf i hil⟩
    have hci := (hx i (by omega)).1
    rwa [Addr.add_lit] at hci

theorem open_intsAt {v : Value} {d : DataW H} {p : List MemPlace} {base : Nat} (hv : Value.okWide Try.prog w .any base 22 v) (h : DataW.Trod enc Try.prog w 0 (fun _ => true) true 22 v d p) : ∃ xs, IntsAt w v xs := by
  obtain ⟨a0, len0, cap0, rfl⟩ := okWide_slice Try.underlying22 hv
  obtain ⟨fuel, hf⟩ := h
  refine open_slAt (R := PlainR intV) Try.underlying22 (by kernel_rfl) (v := .slice a0 len0 cap0) (by simpa [Value.cells] using hf) fun u n y hy => ?_
  obtain ⟨z, hu, _⟩ := DataW.trod_int Try.underlying3 hy
  simp only [List.cons.injEq, and_true] at hu
  exact ⟨z, hu⟩
theorem open_rowsAt {v : Value} {d : DataW H} {p : List MemPlace} {base : Nat} (hv : Value.okWide Try.prog w .any base 23 v) (h : DataW.Trod enc Try.prog w 0 (fun _ => true) true 23 v d p) : ∃ xs, RowsAt w v xs := by
  obtain ⟨a0, len0, cap0, rfl⟩ := okWide_slice Try.underlying23 hv
  obtain ⟨fuel, hf⟩ := h
  refine open_slAt (R := fun w u r => BoolsAt w u r) Try.underlying23 (by kernel_rfl) (v := .slice a0 len0 cap0) (by simpa [Value.cells] using hf) fun u n y hy => ?_
  refine open_slAt (R := PlainR boolV) Try.underlying37 (by kernel_rfl) hy fun u n y hy => ?_
  obtain ⟨z, hu, _⟩ := DataW.trod_bool Try.underlying4 hy
  simp only [List.cons.injEq, and_true] at hu
  exact ⟨z, hu⟩
end

end Go.Proofs.Ytgclbnfpipepfaa
