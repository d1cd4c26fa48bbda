/-
 A slice of parts (a string, a byte, a 16-bit number, a string, two 16-bit numbers, a byte), opened.
-/
import Derived.Test.YtnlnmfkmbpihhaaGreatDoorOpnA
import Derived.Test.YtnlnmfkmbpihhaaGreatDoorScP
import Derived.SizedLaws
namespace Go.Proofs.YtnlnmfkmbpihhaaGreatDoor
open Go.ChangeShapes Go.WideShapes Go.ChangeAt Go.RowKit Go.Deep

instance : Inhabited Prt := ⟨⟨⟨#[]⟩, ⟨#[]⟩, 0, 0, 0, 0, 0⟩⟩
theorem cellsPart : Tryz.prog.cellsOf 75 = 7 := by kernel_rfl
theorem bytesPart : Tryz.prog.bytesOf 75 = 48 := by kernel_rfl
theorem cellsHalfG : Tryz.prog.cellsOf 45 = 1 := by kernel_rfl
theorem cellsByteG : Tryz.prog.cellsOf 5 = 1 := by kernel_rfl
theorem list7 {α : Type} {l : List α} (h : l.length = 7) : ∃ c0 c1 c2 c3 c4 c5 c6, l = [c0, c1, c2, c3, c4, c5, c6] := by
 match l, h with
 | [c0, c1, c2, c3, c4, c5, c6], _ => exact ⟨c0, c1, c2, c3, c4, c5, c6, rfl⟩
section
variable {H : Type} {enc : TypeId × Value → H} {w : World} {base : Nat} {sp : Nat → Bool} {held : Bool}
set_option maxRecDepth 100000 in
theorem part_cells {fuel : Nat} {cs : List Value} {y : DataW H × List MemPlace} (hl : cs.length = 7) (hf : DataW.trod enc Tryz.prog w base sp held fuel 75 cs = some y) : ∃ f : Prt, cs = f.cells ∧ f.small := by
 obtain ⟨c0, c1, c2, c3, c4, c5, c6, rfl⟩ := list7 hl
 obtain ⟨xs, n, _, _, _, hlen, hfs⟩ := DataW.trod_struct Tryz.underlying75 hf
 obtain ⟨y0, y1, y2, y3, y4, y5, y6, rfl⟩ := list7 (l := xs) hlen
 have f0 : DataW.trod enc Tryz.prog w base sp held n 9 (([c0, c1, c2, c3, c4, c5, c6].drop 0).take (Tryz.prog.cellsOf 9)) = some y0 := hfs 0 _ rfl
 rw [cellsS] at f0
 replace f0 : DataW.trod enc Tryz.prog w base sp held n 9 [c0] = some y0 := f0
 have f1 : DataW.trod enc Tryz.prog w base sp held n 5 (([c0, c1, c2, c3, c4, c5, c6].drop 1).take (Tryz.prog.cellsOf 5)) = some y1 := hfs 1 _ rfl
 rw [cellsByteG] at f1
 replace f1 : DataW.trod enc Tryz.prog w base sp held n 5 [c1] = some y1 := f1
 have f2 : DataW.trod enc Tryz.prog w base sp held n 45 (([c0, c1, c2, c3, c4, c5, c6].drop 2).take (Tryz.prog.cellsOf 45)) = some y2 := hfs 2 _ rfl
 rw [cellsHalfG] at f2
 replace f2 : DataW.trod enc Tryz.prog w base sp held n 45 [c2] = some y2 := f2
 have f3 : DataW.trod enc Tryz.prog w base sp held n 9 (([c0, c1, c2, c3, c4, c5, c6].drop 3).take (Tryz.prog.cellsOf 9)) = some y3 := hfs 3 _ rfl
 rw [cellsS] at f3
 replace f3 : DataW.trod enc Tryz.prog w base sp held n 9 [c3] = some y3 := f3
 have f4 : DataW.trod enc Tryz.prog w base sp held n 45 (([c0, c1, c2, c3, c4, c5, c6].drop 4).take (Tryz.prog.cellsOf 45)) = some y4 := hfs 4 _ rfl
 rw [cellsHalfG] at f4
 replace f4 : DataW.trod enc Tryz.prog w base sp held n 45 [c4] = some y4 := f4
 have f5 : DataW.trod enc Tryz.prog w base sp held n 45 (([c0, c1, c2, c3, c4, c5, c6].drop 5).take (Tryz.prog.cellsOf 45)) = some y5 := hfs 5 _ rfl
 rw [cellsHalfG] at f5
 replace f5 : DataW.trod enc Tryz.prog w base sp held n 45 [c5] = some y5 := f5
 have f6 : DataW.trod enc Tryz.prog w base sp held n 5 (([c0, c1, c2, c3, c4, c5, c6].drop 6).take (Tryz.prog.cellsOf 5)) = some y6 := hfs 6 _ rfl
 rw [cellsByteG] at f6
 replace f6 : DataW.trod enc Tryz.prog w base sp held n 5 [c6] = some y6 := f6
 obtain ⟨t0, e0, _, z0⟩ := DataW.trod_string Tryz.underlying9 f0
 have h0 : c0 = .string t0 := by simpa [Value.cells] using e0
 obtain ⟨k1, e1, _, w1⟩ := DataW.trod_int Tryz.underlying5 f1
 have h1 : c1 = .int .u8 k1 := by simpa [Value.cells] using e1
 obtain ⟨k2, e2, _, w2⟩ := DataW.trod_int Tryz.underlying45 f2
 have h2 : c2 = .int .u16 k2 := by simpa [Value.cells] using e2
 obtain ⟨t3, e3, _, z3⟩ := DataW.trod_string Tryz.underlying9 f3
 have h3 : c3 = .string t3 := by simpa [Value.cells] using e3
 obtain ⟨k4, e4, _, w4⟩ := DataW.trod_int Tryz.underlying45 f4
 have h4 : c4 = .int .u16 k4 := by simpa [Value.cells] using e4
 obtain ⟨k5, e5, _, w5⟩ := DataW.trod_int Tryz.underlying45 f5
 have h5 : c5 = .int .u16 k5 := by simpa [Value.cells] using e5
 obtain ⟨k6, e6, _, w6⟩ := DataW.trod_int Tryz.underlying5 f6
 have h6 : c6 = .int .u8 k6 := by simpa [Value.cells] using e6
 subst h0 h1 h2 h3 h4 h5 h6
 obtain ⟨n1, rfl, hn1⟩ := nat_of_u8 w1
 obtain ⟨n2, rfl, hn2⟩ := nat_of_u16 w2
 obtain ⟨n4, rfl, hn4⟩ := nat_of_u16 w4
 obtain ⟨n5, rfl, hn5⟩ := nat_of_u16 w5
 obtain ⟨n6, rfl, hn6⟩ := nat_of_u8 w6
 exact ⟨⟨t0, t3, n1, n2, n4, n5, n6⟩, rfl, z0, z3, hn1, hn2, hn4, hn5, hn6⟩
set_option maxRecDepth 100000 in
theorem open_parts {v : Value} {d : DataW H} {p : List MemPlace} {b0 : Nat} (hv : Value.okWide Tryz.prog w .any b0 22 v) (h : DataW.Trod enc Tryz.prog w 0 (fun _ => true) true 22 v d p) :
  ∃ fs, PartsAt w v fs ∧ (∀ f ∈ fs, f.small) ∧ (fs = [] ∨ ∃ el spr, d = .slice el spr ∧ el.length = fs.length) := by
 obtain ⟨a0, len0, cap0, rfl⟩ := okWide_slice Tryz.underlying22 hv
 obtain ⟨fuel, hf⟩ := h
 rcases open_slice Tryz.underlying22 (by simpa [Value.cells] using hf) with ⟨hcs, _⟩ | ⟨a, len, cap, m, n, D, Pl, hcs, _, hl, hm, hmm, hd, hx⟩
 ·simp only [List.cons.injEq, and_true] at hcs
  exact ⟨[], ⟨none, 0, hcs, Nat.le_refl _, by omega, fun i x hx => by cases hx⟩, (fun f hf => by cases hf), .inl rfl⟩
 ·simp only [List.cons.injEq, and_true] at hcs
  have hmc : m = cap := by simpa using hmm
  rw [cellsPart] at hx
  obtain ⟨F, hF⟩ := choose_lt (α := Prt) (n := len) (p := fun i f => f.small ∧ ∀ j u, f.cells[j]? = some u → w.cell? ((a.add (i * 7)).add j) = some u) fun i hi => by
   obtain ⟨cs', hc, ht⟩ := hx i (by omega)
   obtain ⟨_, hcl, hat⟩ := World.cells?_some hc
   obtain ⟨f, rfl, hs⟩ := part_cells hcl ht
   exact ⟨f, hs, fun j u hu => by
    have hj : j < 7 := (List.getElem?_eq_some_iff.1 hu).1
    rw [hat j hj, hu]⟩
  obtain ⟨b, o, spt⟩ := a
  refine ⟨(List.range len).map F, ⟨some ⟨b, o, spt⟩, cap, by simpa using hcs, by simpa using hl, by unfold maxLen at hm; omega, fun i f hf => ?_⟩, fun f hf => ?_, .inr ⟨_, _, congrArg Prod.fst hd, by simp⟩⟩
  ·rw [List.getElem?_map] at hf
   obtain ⟨j, hj, rfl⟩ := Option.map_eq_some_iff.1 hf
   obtain ⟨h1, h2⟩ := List.getElem?_eq_some_iff.1 hj
   simp at h1 h2
   subst h2
   have hspot : spt = none := by
    have h3 := (hF 0 (by omega)).2 0 _ rfl
    simpa [Addr.add] using World.cell?_spot h3
   subst hspot
   exact ⟨b, o, rfl, fun j u hu => by
    have h := (hF i h1).2 j u hu
    rwa [Addr.add_lit, Addr.add_lit] at h⟩
  ·obtain ⟨i, hi, rfl⟩ := List.mem_map.1 hf
   exact (hF i (List.mem_range.1 hi)).1
/-- What the form's reach says of the parts' number. -/
theorem parts_reach {fs : List Prt} {d : DataW H} (h : fs = [] ∨ ∃ el spr, d = .slice el spr ∧ el.length = fs.length) {ts : List TypeId} {ds : List (DataW H)} (hz : (DataW.weightsEach Tryz.prog ts ds).all (· ≤ reachBytes) = true)
  (ht : ts[0]? = some 22) (hd : ds[0]? = some d) : fs.length ≤ 2940000000000 := by
 rcases h with rfl | ⟨el, spr, rfl, hl⟩
 ·exact Nat.zero_le _
 ·have := sized_slice hz (j := 0) (t := 22) (e := 75) ht hd Tryz.underlying22
  rw [bytesPart] at this
  have hr := reachBytes_lt
  omega
set_option maxRecDepth 100000 in
theorem open_u16 {v : Value} {d : DataW H} {p : List MemPlace} {b0 : Nat} (hv : Value.okWide Tryz.prog w .any b0 45 v) (h : DataW.Trod enc Tryz.prog w 0 (fun _ => true) true 45 v d p) : ∃ n : Nat, v = .int .u16 (n : Int) ∧ n < 65536 := by
 obtain ⟨z, rfl, _, _, hw⟩ := open_int Tryz.underlying45 hv h
 obtain ⟨n, rfl, hn⟩ := nat_of_u16 hw
 exact ⟨n, rfl, hn⟩
end
end Go.Proofs.YtnlnmfkmbpihhaaGreatDoor
