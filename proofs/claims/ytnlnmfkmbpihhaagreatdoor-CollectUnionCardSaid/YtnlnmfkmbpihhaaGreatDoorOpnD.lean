/-
 A slice of frames, opened.
-/
import Derived.Test.YtnlnmfkmbpihhaaGreatDoorOpnA
import Derived.Test.YtnlnmfkmbpihhaaGreatDoorScC
namespace Go.Proofs.YtnlnmfkmbpihhaaGreatDoor
open Go.ChangeShapes Go.WideShapes Go.ChangeAt Go.RowKit Go.Deep

instance : Inhabited Frm := ⟨frm0⟩
section
variable {H : Type} {enc : TypeId × Value → H} {w : World} {base : Nat} {sp : Nat → Bool} {held : Bool}
set_option maxRecDepth 100000 in
theorem frame_cells {fuel : Nat} {cs : List Value} {y : DataW H × List MemPlace} (hl : cs.length = 9) (hf : DataW.trod enc Tryz.prog w base sp held fuel 34 cs = some y) : ∃ f : Frm, cs = f.cells ∧ f.small := by
 obtain ⟨c0, c1, c2, c3, c4, c5, c6, c7, c8, rfl⟩ := list9 hl
 obtain ⟨xs, n, _, _, _, hlen, hfs⟩ := DataW.trod_struct Tryz.underlying34 hf
 obtain ⟨y0, y1, y2, y3, y4, y5, y6, y7, rfl⟩ := list8 (l := xs) hlen
 have f0 : DataW.trod enc Tryz.prog w base sp held n 3 (([c0, c1, c2, c3, c4, c5, c6, c7, c8].drop 0).take (Tryz.prog.cellsOf 3)) = some y0 := hfs 0 _ rfl
 rw [cellsI] at f0
 replace f0 : DataW.trod enc Tryz.prog w base sp held n 3 [c0] = some y0 := f0
 have f1 : DataW.trod enc Tryz.prog w base sp held n 3 (([c0, c1, c2, c3, c4, c5, c6, c7, c8].drop 1).take (Tryz.prog.cellsOf 3)) = some y1 := hfs 1 _ rfl
 rw [cellsI] at f1
 replace f1 : DataW.trod enc Tryz.prog w base sp held n 3 [c1] = some y1 := f1
 have f2 : DataW.trod enc Tryz.prog w base sp held n 3 (([c0, c1, c2, c3, c4, c5, c6, c7, c8].drop 2).take (Tryz.prog.cellsOf 3)) = some y2 := hfs 2 _ rfl
 rw [cellsI] at f2
 replace f2 : DataW.trod enc Tryz.prog w base sp held n 3 [c2] = some y2 := f2
 have f3 : DataW.trod enc Tryz.prog w base sp held n 3 (([c0, c1, c2, c3, c4, c5, c6, c7, c8].drop 3).take (Tryz.prog.cellsOf 3)) = some y3 := hfs 3 _ rfl
 rw [cellsI] at f3
 replace f3 : DataW.trod enc Tryz.prog w base sp held n 3 [c3] = some y3 := f3
 have f4 : DataW.trod enc Tryz.prog w base sp held n 3 (([c0, c1, c2, c3, c4, c5, c6, c7, c8].drop 4).take (Tryz.prog.cellsOf 3)) = some y4 := hfs 4 _ rfl
 rw [cellsI] at f4
 replace f4 : DataW.trod enc Tryz.prog w base sp held n 3 [c4] = some y4 := f4
 have f5 : DataW.trod enc Tryz.prog w base sp held n 31 (([c0, c1, c2, c3, c4, c5, c6, c7, c8].drop 5).take (Tryz.prog.cellsOf 31)) = some y5 := hfs 5 _ rfl
 rw [cellsL] at f5
 replace f5 : DataW.trod enc Tryz.prog w base sp held n 31 [c5, c6] = some y5 := f5
 have f6 : DataW.trod enc Tryz.prog w base sp held n 32 (([c0, c1, c2, c3, c4, c5, c6, c7, c8].drop 7).take (Tryz.prog.cellsOf 32)) = some y6 := hfs 6 _ rfl
 rw [cellsU32] at f6
 replace f6 : DataW.trod enc Tryz.prog w base sp held n 32 [c7] = some y6 := f6
 have f7 : DataW.trod enc Tryz.prog w base sp held n 9 (([c0, c1, c2, c3, c4, c5, c6, c7, c8].drop 8).take (Tryz.prog.cellsOf 9)) = some y7 := hfs 7 _ rfl
 rw [cellsS] at f7
 replace f7 : DataW.trod enc Tryz.prog w base sp held n 9 [c8] = some y7 := f7
 obtain ⟨k0, e0, _, _⟩ := DataW.trod_int Tryz.underlying3 f0
 obtain ⟨k1, e1, _, _⟩ := DataW.trod_int Tryz.underlying3 f1
 obtain ⟨k2, e2, _, _⟩ := DataW.trod_int Tryz.underlying3 f2
 obtain ⟨k3, e3, _, _⟩ := DataW.trod_int Tryz.underlying3 f3
 obtain ⟨k4, e4, _, _⟩ := DataW.trod_int Tryz.underlying3 f4
 obtain ⟨z0, z1, m, _, _, g0, g1⟩ := trod_struct2 Tryz.underlying31 f5
 replace g0 : DataW.trod enc Tryz.prog w base sp held m 3 (([c5, c6].drop 0).take (Tryz.prog.cellsOf 3)) = some z0 := g0
 replace g1 : DataW.trod enc Tryz.prog w base sp held m 3 (([c5, c6].drop 1).take (Tryz.prog.cellsOf 3)) = some z1 := g1
 rw [cellsI] at g0 g1
 replace g0 : DataW.trod enc Tryz.prog w base sp held m 3 [c5] = some z0 := g0
 replace g1 : DataW.trod enc Tryz.prog w base sp held m 3 [c6] = some z1 := g1
 obtain ⟨k5, e5, _, _⟩ := DataW.trod_int Tryz.underlying3 g0
 obtain ⟨k6, e6, _, _⟩ := DataW.trod_int Tryz.underlying3 g1
 obtain ⟨k7, e7, _, wf⟩ := DataW.trod_int Tryz.underlying32 f6
 obtain ⟨t, e8, _, _⟩ := DataW.trod_string Tryz.underlying9 f7
 have h0 : c0 = .int .i64 k0 := by simpa [Value.cells] using e0
 have h1 : c1 = .int .i64 k1 := by simpa [Value.cells] using e1
 have h2 : c2 = .int .i64 k2 := by simpa [Value.cells] using e2
 have h3 : c3 = .int .i64 k3 := by simpa [Value.cells] using e3
 have h4 : c4 = .int .i64 k4 := by simpa [Value.cells] using e4
 have h5 : c5 = .int .i64 k5 := by simpa [Value.cells] using e5
 have h6 : c6 = .int .i64 k6 := by simpa [Value.cells] using e6
 have h7 : c7 = .int .u32 k7 := by simpa [Value.cells] using e7
 have h8 : c8 = .string t := by simpa [Value.cells] using e8
 subst h0 h1 h2 h3 h4 h5 h6 h7 h8
 refine ⟨⟨k0, k1, k2, k3, k4, k5, k6, k7, t⟩, rfl, ?_⟩
 simp only [Lit.wf, IntKind.min, IntKind.max, IntKind.signed, IntKind.bits, Bool.and_eq_true] at wf
 simp at wf
 unfold Frm.small
 dsimp only
 omega
set_option maxRecDepth 100000 in
theorem open_frames {v : Value} {d : DataW H} {p : List MemPlace} {b0 : Nat} (hv : Value.okWide Tryz.prog w .any b0 49 v) (h : DataW.Trod enc Tryz.prog w 0 (fun _ => true) true 49 v d p) : ∃ fs, FrmsAt w v fs ∧ ∀ f ∈ fs, f.small := by
 obtain ⟨a0, len0, cap0, rfl⟩ := okWide_slice Tryz.underlying49 hv
 obtain ⟨fuel, hf⟩ := h
 rcases open_slice Tryz.underlying49 (by simpa [Value.cells] using hf) with ⟨hcs, _⟩ | ⟨a, len, cap, m, n, D, Pl, hcs, _, hl, hm, hmm, _, hx⟩
 ·simp only [List.cons.injEq, and_true] at hcs
  exact ⟨[], ⟨none, 0, hcs, Nat.le_refl _, by omega, fun i x hx => by cases hx⟩, fun f hf => by cases hf⟩
 ·simp only [List.cons.injEq, and_true] at hcs
  have hmc : m = cap := by simpa using hmm
  rw [cellsF] at hx
  obtain ⟨F, hF⟩ := choose_lt (α := Frm) (n := len) (p := fun i f => f.small ∧ ∀ j u, f.cells[j]? = some u → w.cell? ((a.add (i * 9)).add j) = some u) fun i hi => by
   obtain ⟨cs', hc, ht⟩ := hx i (by omega)
   obtain ⟨_, hcl, hat⟩ := World.cells?_some hc
   obtain ⟨f, rfl, hs⟩ := frame_cells hcl ht
   exact ⟨f, hs, fun j u hu => by
    have hj : j < 9 := (List.getElem?_eq_some_iff.1 hu).1
    rw [hat j hj, hu]⟩
  obtain ⟨b, o, spt⟩ := a
  refine ⟨(List.range len).map F, ⟨some ⟨b, o, spt⟩, cap, by simpa using hcs, by simpa using hl, by unfold maxLen at hm; omega, fun i f hf => ?_⟩, fun f hf => ?_⟩
  ·rw [List.getElem?_map] at hf
   obtain ⟨j, hj, rfl⟩ := Option.map_eq_some_iff.1 hf
   obtain ⟨h1, h2⟩ := List.getElem?_eq_some_iff.1 hj
   simp at h1 h2
   subst h2
   have hspot : spt = none := by
    have h3 := (hF 0 (by omega)).2 0 _ rfl
    simpa [Addr.add] using World.cell?_spot h3
   subst hspot
   exact ⟨b, o, rfl, fun j u hu => by
    have h := (hF i h1).2 j u hu
    rwa [Addr.add_lit, Addr.add_lit] at h⟩
  ·obtain ⟨i, hi, rfl⟩ := List.mem_map.1 hf
   exact (hF i (List.mem_range.1 hi)).1
end

end Go.Proofs.YtnlnmfkmbpihhaaGreatDoor
