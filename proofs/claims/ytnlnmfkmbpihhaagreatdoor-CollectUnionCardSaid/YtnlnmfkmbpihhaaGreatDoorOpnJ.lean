/-
 A slice of 16-bit numbers and a 32-bit number, opened.
-/
import Derived.Test.YtnlnmfkmbpihhaaGreatDoorOpnA
import Derived.Test.YtnlnmfkmbpihhaaGreatDoorOpnD
import Derived.Test.YtnlnmfkmbpihhaaGreatDoorCoV
namespace Go.Proofs.YtnlnmfkmbpihhaaGreatDoor
open Go.ChangeShapes Go.WideShapes Go.ChangeAt Go.RowKit

section
variable {H : Type} {enc : TypeId × Value → H} {w : World}
theorem nat_of_u16J {z : Int} (h : (Lit.int .u16 z).wf = true) : ∃ n : Nat, z = n ∧ n < 65536 := by
 simp only [Lit.wf, IntKind.min, IntKind.max, IntKind.signed, IntKind.bits, Bool.and_eq_true] at h
 simp at h
 exact ⟨z.toNat, by omega, by omega⟩
theorem u16R_at {v : Value} {xs : List Nat} (h : SlAt U16R w v xs) : U16At w v xs ∧ ∀ x ∈ xs, x < 65536 := by
 obtain ⟨A, c, rfl, h1, h2, h3⟩ := h
 refine ⟨⟨A, c, rfl, h1, h2, fun i x hi => ?_⟩, fun b hb => ?_⟩
 ·obtain ⟨b, o, u, e, hc, hr⟩ := h3 i x hi
  exact ⟨b, o, u, e, hc, hr.1⟩
 ·obtain ⟨i, hi⟩ := List.mem_iff_getElem?.1 hb
  obtain ⟨_, _, _, _, _, hr⟩ := h3 i b hi
  exact hr.2
set_option maxRecDepth 100000 in
theorem open_u16s {v : Value} {d : DataW H} {p : List MemPlace} {base : Nat} (hv : Value.okWide Tryz.prog w .any base 50 v) (h : DataW.Trod enc Tryz.prog w 0 (fun _ => true) true 50 v d p) : ∃ xs, U16At w v xs ∧ ∀ x ∈ xs, x < 65536 := by
 obtain ⟨a0, len0, cap0, rfl⟩ := okWide_slice Tryz.underlying50 hv
 obtain ⟨fuel, hf⟩ := h
 obtain ⟨xs, hx⟩ := open_slAt (R := U16R) Tryz.underlying50 (by kernel_rfl) (v := .slice a0 len0 cap0) (by simpa [Value.cells] using hf) fun u n y hy => by
  obtain ⟨z, hu, _, hw⟩ := DataW.trod_int Tryz.underlying45 hy
  simp only [List.cons.injEq, and_true] at hu
  obtain ⟨m, rfl, hm⟩ := nat_of_u16J hw
  exact ⟨m, hu, hm⟩
 exact ⟨xs, u16R_at hx⟩
set_option maxRecDepth 100000 in
theorem open_u16J {v : Value} {d : DataW H} {p : List MemPlace} {b0 : Nat} (hv : Value.okWide Tryz.prog w .any b0 45 v) (h : DataW.Trod enc Tryz.prog w 0 (fun _ => true) true 45 v d p) : ∃ n : Nat, v = .int .u16 (n : Int) ∧ n < 65536 := by
 obtain ⟨z, rfl, _, _, hw⟩ := open_int Tryz.underlying45 hv h
 obtain ⟨n, rfl, hn⟩ := nat_of_u16J hw
 exact ⟨n, rfl, hn⟩
set_option maxRecDepth 100000 in
theorem open_u32 {v : Value} {d : DataW H} {p : List MemPlace} {b0 : Nat} (hv : Value.okWide Tryz.prog w .any b0 32 v) (h : DataW.Trod enc Tryz.prog w 0 (fun _ => true) true 32 v d p) : ∃ n : Int, v = .int .u32 n ∧ 0 ≤ n ∧ n < 4294967296 := by
 obtain ⟨z, rfl, _, _, hw⟩ := open_int Tryz.underlying32 hv h
 simp only [Lit.wf, IntKind.min, IntKind.max, IntKind.signed, IntKind.bits, Bool.and_eq_true] at hw
 simp at hw
 exact ⟨z, rfl, by omega, by omega⟩
end
end Go.Proofs.YtnlnmfkmbpihhaaGreatDoor
