/-
 A collection (a number and a slice of frames), opened.
-/
import Derived.Test.YtnlnmfkmbpihhaaGreatDoorOpnD
namespace Go.Proofs.YtnlnmfkmbpihhaaGreatDoor
open Go.ChangeShapes Go.WideShapes Go.ChangeAt Go.RowKit Go.Deep

theorem cellsColl : Tryz.prog.cellsOf 55 = 2 := by kernel_rfl
theorem cellsFrs : Tryz.prog.cellsOf 49 = 1 := by kernel_rfl
section
variable {H : Type} {enc : TypeId × Value → H} {w : World}
set_option maxRecDepth 100000 in
theorem frames_of {fuel : Nat} {c : Value} {y : DataW H × List MemPlace} (hf : DataW.trod enc Tryz.prog w 0 (fun _ => true) true fuel 49 [c] = some y) : ∃ fs, FrmsAt w c fs ∧ ∀ f ∈ fs, f.small := by
 rcases open_slice Tryz.underlying49 hf with ⟨hcs, _⟩ | ⟨a, len, cap, m, n, D, Pl, hcs, _, hl, hm, hmm, _, hx⟩
 ·simp only [List.cons.injEq, and_true] at hcs
  exact ⟨[], ⟨none, 0, hcs, Nat.le_refl _, by omega, fun i x hx => by cases hx⟩, fun f hf => by cases hf⟩
 ·simp only [List.cons.injEq, and_true] at hcs
  have hmc : m = cap := by simpa using hmm
  rw [cellsF] at hx
  obtain ⟨F, hF⟩ := choose_lt (α := Frm) (n := len) (p := fun i f => f.small ∧ ∀ j u, f.cells[j]? = some u → w.cell? ((a.add (i * 9)).add j) = some u) fun i hi => by
   obtain ⟨cs', hc, ht⟩ := hx i (by omega)
   obtain ⟨_, hcl, hat⟩ := World.cells?_some hc
   obtain ⟨f, rfl, hs⟩ := frame_cells hcl ht
   exact ⟨f, hs, fun j u hu => by
    have hj : j < 9 := (List.getElem?_eq_some_iff.1 hu).1
    rw [hat j hj, hu]⟩
  obtain ⟨b, o, spt⟩ := a
  refine ⟨(List.range len).map F, ⟨some ⟨b, o, spt⟩, cap, by simpa using hcs, by simpa using hl, by unfold maxLen at hm; omega, fun i f hf => ?_⟩, fun f hf => ?_⟩
  ·rw [List.getElem?_map] at hf
   obtain ⟨j, hj, rfl⟩ := Option.map_eq_some_iff.1 hf
   obtain ⟨h1, h2⟩ := List.getElem?_eq_some_iff.1 hj
   simp at h1 h2
   subst h2
   have hspot : spt = none := by
    have h3 := (hF 0 (by omega)).2 0 _ rfl
    simpa [Addr.add] using World.cell?_spot h3
   subst hspot
   exact ⟨b, o, rfl, fun j u hu => by
    have h := (hF i h1).2 j u hu
    rwa [Addr.add_lit, Addr.add_lit] at h⟩
  ·obtain ⟨i, hi, rfl⟩ := List.mem_map.1 hf
   exact (hF i (List.mem_range.1 hi)).1
set_option maxRecDepth 100000 in
theorem open_coll {v : Value} {d : DataW H} {p : List MemPlace} {b0 : Nat} (hval : Value.okWide Tryz.prog w .any b0 55 v) (hd : DataW.Trod enc Tryz.prog w 0 (fun _ => true) true 55 v d p) :
  ∃ (a : Int) (u : Value) (fs : List Frm), v = .agg #[.int .u32 a, u] ∧ FrmsAt w u fs ∧ (∀ f ∈ fs, f.small) ∧ 0 ≤ a ∧ a < 4294967296 := by
 obtain ⟨⟨cs⟩, rfl, hsz⟩ := okWide_struct Tryz.underlying55 hval
 rw [cellsColl] at hsz
 obtain ⟨c0, c1, rfl⟩ : ∃ c0 c1, cs = [c0, c1] := by
  match cs, hsz with
  | [c0, c1], _ => exact ⟨c0, c1, rfl⟩
 obtain ⟨fuel, hf⟩ := hd
 obtain ⟨z0, z1, m, _, _, g0, g1⟩ := trod_struct2 Tryz.underlying55 hf
 replace g0 : DataW.trod enc Tryz.prog w 0 (fun _ => true) true m 32 (([c0, c1].drop 0).take (Tryz.prog.cellsOf 32)) = some z0 := g0
 replace g1 : DataW.trod enc Tryz.prog w 0 (fun _ => true) true m 49 (([c0, c1].drop 1).take (Tryz.prog.cellsOf 49)) = some z1 := g1
 rw [cellsU32] at g0
 rw [cellsFrs] at g1
 replace g0 : DataW.trod enc Tryz.prog w 0 (fun _ => true) true m 32 [c0] = some z0 := g0
 replace g1 : DataW.trod enc Tryz.prog w 0 (fun _ => true) true m 49 [c1] = some z1 := g1
 obtain ⟨a, e0, _, wf⟩ := DataW.trod_int Tryz.underlying32 g0
 have h0 : c0 = .int .u32 a := by simpa [Value.cells] using e0
 obtain ⟨fs, h1, h2⟩ := frames_of g1
 subst h0
 simp only [Lit.wf, IntKind.min, IntKind.max, IntKind.signed, IntKind.bits, Bool.and_eq_true] at wf
 simp at wf
 exact ⟨a, c1, fs, rfl, h1, h2, by omega, by omega⟩
end
end Go.Proofs.YtnlnmfkmbpihhaaGreatDoor
