/-
 The arguments of layer 13's laws, opened; the world in which the witness starts.
 The arguments of layer 13's laws, opened: a byte; a slice of numbers.
-/
import Derived.Test.YtnlnmfkmbpihhaaGreatDoorTie
import Derived.Test.YtnlnmfkmbpihhaaGreatDoorFrB
import Derived.ChangeMaps5
import Derived.ProofKit
import Derived.OpenShut
import Derived.LaidMore
import Derived.Lay
import Derived.SevenTiedAt
import Derived.Stop.Joined
import Derived.Deep.Slices
namespace Go.Proofs.YtnlnmfkmbpihhaaGreatDoor
open Go.ChangeShapes Go.WideShapes Go.ChangeAt Go.RowKit

theorem ownN : ownKnob Tryz.prog.godebug = none := by kernel_rfl
theorem laidN : laidOutB Tryz.prog = true := by kernel_rfl
theorem cellsF : Tryz.prog.cellsOf 34 = 9 := by kernel_rfl
theorem cellsI : Tryz.prog.cellsOf 3 = 1 := by kernel_rfl
theorem cellsL : Tryz.prog.cellsOf 31 = 2 := by kernel_rfl
theorem cellsU32 : Tryz.prog.cellsOf 32 = 1 := by kernel_rfl
theorem cellsS : Tryz.prog.cellsOf 9 = 1 := by kernel_rfl
theorem list9 {α : Type} {l : List α} (h : l.length = 9) : ∃ c0 c1 c2 c3 c4 c5 c6 c7 c8, l = [c0, c1, c2, c3, c4, c5, c6, c7, c8] := by
 match l, h with
 | [c0, c1, c2, c3, c4, c5, c6, c7, c8], _ => exact ⟨c0, c1, c2, c3, c4, c5, c6, c7, c8, rfl⟩
theorem list8 {α : Type} {l : List α} (h : l.length = 8) : ∃ c0 c1 c2 c3 c4 c5 c6 c7, l = [c0, c1, c2, c3, c4, c5, c6, c7] := by
 match l, h with
 | [c0, c1, c2, c3, c4, c5, c6, c7], _ => exact ⟨c0, c1, c2, c3, c4, c5, c6, c7, rfl⟩
set_option maxRecDepth 100000 in
theorem open_frame {H : Type} {enc : TypeId × Value → H} {W : World} {base : Nat} {sp : Nat → Bool} {held : Bool} {r : Reach} {b0 : Nat} {v : Value} {d : DataW H} {ps : List MemPlace}
  (hval : Value.okWide Tryz.prog W r b0 34 v) (hd : DataW.Trod enc Tryz.prog W base sp held 34 v d ps) :
  ∃ (k r s i l d p a : Int) (t : ByteArray), v = frV k r s i l d p a t ∧ 0 ≤ a ∧ a < 4294967296 := by
 obtain ⟨⟨cs⟩, rfl, hsz⟩ := okWide_struct Tryz.underlying34 hval
 rw [cellsF] at hsz
 obtain ⟨c0, c1, c2, c3, c4, c5, c6, c7, c8, rfl⟩ := list9 (l := cs) hsz
 obtain ⟨fuel, hf⟩ := hd
 obtain ⟨xs, n, _, _, _, hlen, hfs⟩ := DataW.trod_struct Tryz.underlying34 hf
 obtain ⟨y0, y1, y2, y3, y4, y5, y6, y7, rfl⟩ := list8 (l := xs) hlen
 have f0 : DataW.trod enc Tryz.prog W base sp held n 3 (([c0, c1, c2, c3, c4, c5, c6, c7, c8].drop 0).take (Tryz.prog.cellsOf 3)) = some y0 := hfs 0 _ rfl
 rw [cellsI] at f0
 replace f0 : DataW.trod enc Tryz.prog W base sp held n 3 [c0] = some y0 := f0
 have f1 : DataW.trod enc Tryz.prog W base sp held n 3 (([c0, c1, c2, c3, c4, c5, c6, c7, c8].drop 1).take (Tryz.prog.cellsOf 3)) = some y1 := hfs 1 _ rfl
 rw [cellsI] at f1
 replace f1 : DataW.trod enc Tryz.prog W base sp held n 3 [c1] = some y1 := f1
 have f2 : DataW.trod enc Tryz.prog W base sp held n 3 (([c0, c1, c2, c3, c4, c5, c6, c7, c8].drop 2).take (Tryz.prog.cellsOf 3)) = some y2 := hfs 2 _ rfl
 rw [cellsI] at f2
 replace f2 : DataW.trod enc Tryz.prog W base sp held n 3 [c2] = some y2 := f2
 have f3 : DataW.trod enc Tryz.prog W base sp held n 3 (([c0, c1, c2, c3, c4, c5, c6, c7, c8].drop 3).take (Tryz.prog.cellsOf 3)) = some y3 := hfs 3 _ rfl
 rw [cellsI] at f3
 replace f3 : DataW.trod enc Tryz.prog W base sp held n 3 [c3] = some y3 := f3
 have f4 : DataW.trod enc Tryz.prog W base sp held n 3 (([c0, c1, c2, c3, c4, c5, c6, c7, c8].drop 4).take (Tryz.prog.cellsOf 3)) = some y4 := hfs 4 _ rfl
 rw [cellsI] at f4
 replace f4 : DataW.trod enc Tryz.prog W base sp held n 3 [c4] = some y4 := f4
 have f5 : DataW.trod enc Tryz.prog W base sp held n 31 (([c0, c1, c2, c3, c4, c5, c6, c7, c8].drop 5).take (Tryz.prog.cellsOf 31)) = some y5 := hfs 5 _ rfl
 rw [cellsL] at f5
 replace f5 : DataW.trod enc Tryz.prog W base sp held n 31 [c5, c6] = some y5 := f5
 have f6 : DataW.trod enc Tryz.prog W base sp held n 32 (([c0, c1, c2, c3, c4, c5, c6, c7, c8].drop 7).take (Tryz.prog.cellsOf 32)) = some y6 := hfs 6 _ rfl
 rw [cellsU32] at f6
 replace f6 : DataW.trod enc Tryz.prog W base sp held n 32 [c7] = some y6 := f6
 have f7 : DataW.trod enc Tryz.prog W base sp held n 9 (([c0, c1, c2, c3, c4, c5, c6, c7, c8].drop 8).take (Tryz.prog.cellsOf 9)) = some y7 := hfs 7 _ rfl
 rw [cellsS] at f7
 replace f7 : DataW.trod enc Tryz.prog W base sp held n 9 [c8] = some y7 := f7
 obtain ⟨k0, e0, _, _⟩ := DataW.trod_int Tryz.underlying3 f0
 obtain ⟨k1, e1, _, _⟩ := DataW.trod_int Tryz.underlying3 f1
 obtain ⟨k2, e2, _, _⟩ := DataW.trod_int Tryz.underlying3 f2
 obtain ⟨k3, e3, _, _⟩ := DataW.trod_int Tryz.underlying3 f3
 obtain ⟨k4, e4, _, _⟩ := DataW.trod_int Tryz.underlying3 f4
 obtain ⟨z0, z1, m, _, _, g0, g1⟩ := trod_struct2 Tryz.underlying31 f5
 replace g0 : DataW.trod enc Tryz.prog W base sp held m 3 (([c5, c6].drop 0).take (Tryz.prog.cellsOf 3)) = some z0 := g0
 replace g1 : DataW.trod enc Tryz.prog W base sp held m 3 (([c5, c6].drop 1).take (Tryz.prog.cellsOf 3)) = some z1 := g1
 rw [cellsI] at g0 g1
 replace g0 : DataW.trod enc Tryz.prog W base sp held m 3 [c5] = some z0 := g0
 replace g1 : DataW.trod enc Tryz.prog W base sp held m 3 [c6] = some z1 := g1
 obtain ⟨k5, e5, _, _⟩ := DataW.trod_int Tryz.underlying3 g0
 obtain ⟨k6, e6, _, _⟩ := DataW.trod_int Tryz.underlying3 g1
 obtain ⟨k7, e7, _, wf⟩ := DataW.trod_int Tryz.underlying32 f6
 obtain ⟨t, e8, _, _⟩ := DataW.trod_string Tryz.underlying9 f7
 have h0 : c0 = .int .i64 k0 := by simpa [Value.cells] using e0
 have h1 : c1 = .int .i64 k1 := by simpa [Value.cells] using e1
 have h2 : c2 = .int .i64 k2 := by simpa [Value.cells] using e2
 have h3 : c3 = .int .i64 k3 := by simpa [Value.cells] using e3
 have h4 : c4 = .int .i64 k4 := by simpa [Value.cells] using e4
 have h5 : c5 = .int .i64 k5 := by simpa [Value.cells] using e5
 have h6 : c6 = .int .i64 k6 := by simpa [Value.cells] using e6
 have h7 : c7 = .int .u32 k7 := by simpa [Value.cells] using e7
 have h8 : c8 = .string t := by simpa [Value.cells] using e8
 subst h0 h1 h2 h3 h4 h5 h6 h7 h8
 refine ⟨k0, k1, k2, k3, k4, k5, k6, k7, t, rfl, ?_⟩
 simp only [Lit.wf, IntKind.min, IntKind.max, IntKind.signed, IntKind.bits, Bool.and_eq_true] at wf
 simp at wf
 omega

end Go.Proofs.YtnlnmfkmbpihhaaGreatDoor

namespace Go.Proofs.YtnlnmfkmbpihhaaGreatDoor
open Go.ChangeShapes Go.WideShapes Go.ChangeAt Go.RowKit Go.Deep

section
variable {H : Type} {enc : TypeId × Value → H} {w : World}
set_option maxRecDepth 100000 in
theorem open_slAt {α : Type} [Inhabited α] {R : World → Value → α → Prop} {T E : TypeId} {fuel : Nat} {v : Value} {x : DataW H × List MemPlace} (hT : Tryz.prog.underlying T = some (.slice E)) (hC : Tryz.prog.cellsOf E = 1)
  (h : DataW.trod enc Tryz.prog w 0 (fun _ => true) true fuel T [v] = some x)
  (hR : ∀ (u : Value) (n : Nat) (y : DataW H × List MemPlace), DataW.trod enc Tryz.prog w 0 (fun _ => true) true n E [u] = some y → ∃ z, R w u z) : ∃ xs, SlAt R w v xs := by
 rcases open_slice1 hT hC h with ⟨hcs, _⟩ | ⟨a, len, cap, m, n, V, D, Pl, hcs, _, hl, hm, hmm, _, hx⟩
 ·simp only [List.cons.injEq, and_true] at hcs
  exact ⟨[], none, 0, hcs, Nat.le_refl _, by omega, fun i x hx => by cases hx⟩
 ·simp only [List.cons.injEq, and_true] at hcs
  have hmc : m = cap := by simpa using hmm
  obtain ⟨f, hf⟩ := choose_lt (α := α) (n := len) (p := fun i z => R w (V i) z) fun i hi => hR _ _ _ (hx i (by omega)).2
  refine ⟨(List.range len).map f, some a, cap, by simpa using hcs, by simpa using hl, by unfold maxLen at hm; omega, fun i z hz => ?_⟩
  rw [List.getElem?_map] at hz
  obtain ⟨j, hj, rfl⟩ := Option.map_eq_some_iff.1 hz
  have hjl : i < len ∧ i = j := by
   have := List.getElem?_eq_some_iff.1 hj
   obtain ⟨h1, h2⟩ := this
   simp at h1 h2
   exact ⟨h1, h2⟩
  obtain ⟨hil, rfl⟩ := hjl
  obtain ⟨b, o, sp⟩ := a
  have hc0 := (hx 0 (by omega)).1
  have hspot : sp = none := by simpa [Addr.add] using World.cell?_spot hc0
  subst hspot
  refine ⟨b, o, V i, rfl, ?_, hf i hil⟩
  have hci := (hx i (by omega)).1
  rwa [Addr.add_lit] at hci
theorem nat_of_u8 {z : Int} (h : (Lit.int .u8 z).wf = true) : ∃ n : Nat, z = n ∧ n < 256 := by
 simp only [Lit.wf, IntKind.min, IntKind.max, IntKind.signed, IntKind.bits, Bool.and_eq_true] at h
 simp at h
 exact ⟨z.toNat, by omega, by omega⟩
theorem nat_of_u16 {z : Int} (h : (Lit.int .u16 z).wf = true) : ∃ n : Nat, z = n ∧ n < 65536 := by
 simp only [Lit.wf, IntKind.min, IntKind.max, IntKind.signed, IntKind.bits, Bool.and_eq_true] at h
 simp at h
 exact ⟨z.toNat, by omega, by omega⟩
set_option maxRecDepth 100000 in
theorem open_u8 {v : Value} {d : DataW H} {p : List MemPlace} {base : Nat} (hv : Value.okWide Tryz.prog w .any base 5 v) (h : DataW.Trod enc Tryz.prog w 0 (fun _ => true) true 5 v d p) : ∃ n : Nat, v = .int .u8 (n : Int) ∧ n < 256 := by
 obtain ⟨z, rfl, _, _, hw⟩ := open_int Tryz.underlying5 hv h
 obtain ⟨n, rfl, hn⟩ := nat_of_u8 hw
 exact ⟨n, rfl, hn⟩
/-- A byte, in a cell. -/
def ByR (_ : World) (u : Value) (x : Nat) : Prop := u = u8V x ∧ x < 256
def U16R (_ : World) (u : Value) (x : Nat) : Prop := u = .int .u16 (x : Int) ∧ x < 65536
theorem byR_bytes {v : Value} {xs : List Nat} (h : SlAt ByR w v xs) : BytesAt w v xs ∧ Bytes xs := by
 obtain ⟨A, c, rfl, h1, h2, h3⟩ := h
 refine ⟨⟨A, c, rfl, h1, h2, fun i x hi => ?_⟩, fun b hb => ?_⟩
 ·obtain ⟨b, o, u, e, hc, hr⟩ := h3 i x hi
  exact ⟨b, o, u, e, hc, hr.1⟩
 ·obtain ⟨i, hi⟩ := List.mem_iff_getElem?.1 hb
  obtain ⟨_, _, _, _, _, hr⟩ := h3 i b hi
  exact hr.2
set_option maxRecDepth 100000 in
theorem open_bytes {v : Value} {d : DataW H} {p : List MemPlace} {base : Nat} (hv : Value.okWide Tryz.prog w .any base 100 v) (h : DataW.Trod enc Tryz.prog w 0 (fun _ => true) true 100 v d p) : ∃ xs, BytesAt w v xs ∧ Bytes xs := by
 obtain ⟨a0, len0, cap0, rfl⟩ := okWide_slice Tryz.underlying100 hv
 obtain ⟨fuel, hf⟩ := h
 obtain ⟨xs, hx⟩ := open_slAt (R := ByR) Tryz.underlying100 (by kernel_rfl) (v := .slice a0 len0 cap0) (by simpa [Value.cells] using hf) fun u n y hy => by
  obtain ⟨z, hu, _, hw⟩ := DataW.trod_int Tryz.underlying5 hy
  simp only [List.cons.injEq, and_true] at hu
  obtain ⟨m, rfl, hm⟩ := nat_of_u8 hw
  exact ⟨m, hu, hm⟩
 exact ⟨xs, byR_bytes hx⟩
end

end Go.Proofs.YtnlnmfkmbpihhaaGreatDoor
