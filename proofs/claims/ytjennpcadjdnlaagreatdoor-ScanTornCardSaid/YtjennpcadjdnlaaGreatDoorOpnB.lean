/-
  The arguments of layer 13's laws, opened: a byte; a slice of numbers.
-/
import Derived.Test.YtjennpcadjdnlaaGreatDoorOpnA
import Derived.Deep.Slices
namespace Go.Proofs.YtjennpcadjdnlaaGreatDoor
open Go.ChangeShapes Go.WideShapes Go.ChangeAt Go.RowKit Go.Deep

section
variable {H : Type} {enc : TypeId × Value → H} {w : World}
set_option maxRecDepth 100000 in
theorem open_slAt {α : Type} [Inhabited α] {R : World → Value → α → Prop} {T E : TypeId} {fuel : Nat} {v : Value} {x : DataW H × List MemPlace} (hT : Tryz.prog.underlying T = some (.slice E)) (hC : Tryz.prog.cellsOf E = 1)
    (h : DataW.trod enc Tryz.prog w 0 (fun _ => true) true fuel T [v] = some x)
    (hR : ∀ (u : Value) (n : Nat) (y : DataW H × List MemPlace), DataW.trod enc Tryz.prog w 0 (fun _ => true) true n E [u] = some y → ∃ z, R w u z) : ∃ xs, SlAt R w v xs := by
  rcases open_slice1 hT hC h with ⟨hcs, _⟩ | ⟨a, len, cap, m, n, V, D, Pl, hcs, _, hl, hm, hmm, _, hx⟩
  · simp only [List.cons.injEq, and_true] at hcs
    exact ⟨[], none, 0, hcs, Nat.le_refl _, by omega, fun i x hx => by cases hx⟩
  · simp only [List.cons.injEq, and_true] at hcs
    have hmc : m = cap := by simpa using hmm
    obtain ⟨f, hf⟩ := choose_lt (α := α) (n := len) (p := fun i z => R w (V i) z) fun i hi => hR _ _ _ (hx i (by omega)).2
    refine ⟨(List.range len).map f, some a, cap, by simpa using hcs, by simpa using hl, by unfold maxLen at hm; omega, fun i z hz => ?_⟩
    rw [List.getElem?_map] at hz
    obtain ⟨j, hj, rfl⟩ := Option.map_eq_some_iff.1 hz
    have hjl : i < len ∧ i = j := by
      have := List.getElem?_eq_some_iff.1 hj
      obtain ⟨h1, h2⟩ := this
      simp at h1 h2
      exact ⟨h1, h2⟩
    obtain ⟨hil, rfl⟩ := hjl
    obtain ⟨b, o, sp⟩ := a
    have hc0 := (hx 0 (by omega)).1
    have hspot : sp = none := by simpa [Addr.add] using World.cell?_spot hc0
    subst hspot
    refine ⟨b, o, V i, rfl, ?_, hf i hil⟩
    have hci := (hx i (by omega)).1
    rwa [Addr.add_lit] at hci
theorem nat_of_u8 {z : Int} (h : (Lit.int .u8 z).wf = true) : ∃ n : Nat, z = n ∧ n < 256 := by
  simp only [Lit.wf, IntKind.min, IntKind.max, IntKind.signed, IntKind.bits, Bool.and_eq_true] at h
  simp at h
  exact ⟨z.toNat, by omega, by omega⟩
theorem nat_of_u16 {z : Int} (h : (Lit.int .u16 z).wf = true) : ∃ n : Nat, z = n ∧ n < 65536 := by
  simp only [Lit.wf, IntKind.min, IntKind.max, IntKind.signed, IntKind.bits, Bool.and_eq_true] at h
  simp at h
  exact ⟨z.toNat, by omega, by omega⟩
set_option maxRecDepth 100000 in
theorem open_u8 {v : Value} {d : DataW H} {p : List MemPlace} {base : Nat} (hv : Value.okWide Tryz.prog w .any base 5 v) (h : DataW.Trod enc Tryz.prog w 0 (fun _ => true) true 5 v d p) : ∃ n : Nat, v = .int .u8 (n : Int) ∧ n < 256 := by
  obtain ⟨z, rfl, _, _, hw⟩ := open_int Tryz.underlying5 hv h
  obtain ⟨n, rfl, hn⟩ := nat_of_u8 hw
  exact ⟨n, rfl, hn⟩
/-- A byte, in a cell. -/
def ByR (_ : World) (u : Value) (x : Nat) : Prop := u = u8V x ∧ x < 256
def U16R (_ : World) (u : Value) (x : Nat) : Prop := u = .int .u16 (x : Int) ∧ x < 65536
theorem byR_bytes {v : Value} {xs : List Nat} (h : SlAt ByR w v xs) : BytesAt w v xs ∧ Bytes xs := by
  obtain ⟨A, c, rfl, h1, h2, h3⟩ := h
  refine ⟨⟨A, c, rfl, h1, h2, fun i x hi => ?_⟩, fun b hb => ?_⟩
  · obtain ⟨b, o, u, e, hc, hr⟩ := h3 i x hi
    exact ⟨b, o, u, e, hc, hr.1⟩
  · obtain ⟨i, hi⟩ := List.mem_iff_getElem?.1 hb
    obtain ⟨_, _, _, _, _, hr⟩ := h3 i b hi
    exact hr.2
set_option maxRecDepth 100000 in
theorem open_bytes {v : Value} {d : DataW H} {p : List MemPlace} {base : Nat} (hv : Value.okWide Tryz.prog w .any base 28 v) (h : DataW.Trod enc Tryz.prog w 0 (fun _ => true) true 28 v d p) : ∃ xs, BytesAt w v xs ∧ Bytes xs := by
  obtain ⟨a0, len0, cap0, rfl⟩ := okWide_slice Tryz.underlying28 hv
  obtain ⟨fuel, hf⟩ := h
  obtain ⟨xs, hx⟩ := open_slAt (R := ByR) Tryz.underlying28 (by kernel_rfl) (v := .slice a0 len0 cap0) (by simpa [Value.cells] using hf) fun u n y hy => by
    obtain ⟨z, hu, _, hw⟩ := DataW.trod_int Tryz.underlying5 hy
    simp only [List.cons.injEq, and_true] at hu
    obtain ⟨m, rfl, hm⟩ := nat_of_u8 hw
    exact ⟨m, hu, hm⟩
  exact ⟨xs, byR_bytes hx⟩
end

end Go.Proofs.YtjennpcadjdnlaaGreatDoor
