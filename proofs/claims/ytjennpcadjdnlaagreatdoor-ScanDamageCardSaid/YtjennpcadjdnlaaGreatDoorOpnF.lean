/-
 The argument of ScanDamage, opened: a damage (a frame, two bytes, two 16-bit numbers, a byte).
-/
import Derived.Test.YtjennpcadjdnlaaGreatDoorOpnA
namespace Go.Proofs.YtjennpcadjdnlaaGreatDoor
open Go.ChangeShapes Go.WideShapes Go.ChangeAt Go.RowKit

theorem cellsDmg : Tryz.prog.cellsOf 56 = 14 := by kernel_rfl
theorem cellsPair8 : Tryz.prog.cellsOf 54 = 2 := by kernel_rfl
theorem cellsHalf : Tryz.prog.cellsOf 29 = 1 := by kernel_rfl
theorem cellsByte : Tryz.prog.cellsOf 5 = 1 := by kernel_rfl
theorem list14 {α : Type} {l : List α} (h : l.length = 14) : ∃ c0 c1 c2 c3 c4 c5 c6 c7 c8 c9 c10 c11 c12 c13, l = [c0, c1, c2, c3, c4, c5, c6, c7, c8, c9, c10, c11, c12, c13] := by
 match l, h with
 | [c0, c1, c2, c3, c4, c5, c6, c7, c8, c9, c10, c11, c12, c13], _ => exact ⟨c0, c1, c2, c3, c4, c5, c6, c7, c8, c9, c10, c11, c12, c13, rfl⟩
theorem list5 {α : Type} {l : List α} (h : l.length = 5) : ∃ y0 y1 y2 y3 y4, l = [y0, y1, y2, y3, y4] := by
 match l, h with
 | [y0, y1, y2, y3, y4], _ => exact ⟨y0, y1, y2, y3, y4, rfl⟩
section
variable {H : Type} {enc : TypeId × Value → H} {W : World}
set_option maxRecDepth 100000 in
theorem frame_trod {fuel : Nat} {c0 c1 c2 c3 c4 c5 c6 c7 c8 : Value} {z : DataW H × List MemPlace} (hf : DataW.trod enc Tryz.prog W 0 (fun _ => true) true fuel 26 [c0, c1, c2, c3, c4, c5, c6, c7, c8] = some z) :
  ∃ (k r s i l d p a : Int) (t : ByteArray), [c0, c1, c2, c3, c4, c5, c6, c7, c8] = [.int .i64 k, .int .i64 r, .int .i64 s, .int .i64 i, .int .i64 l, .int .i64 d, .int .i64 p, .int .u32 a, .string t] ∧ 0 ≤ a ∧ a < 4294967296 := by
 obtain ⟨xs, n, _, _, _, hlen, hfs⟩ := DataW.trod_struct Tryz.underlying26 hf
 obtain ⟨y0, y1, y2, y3, y4, y5, y6, y7, rfl⟩ := list8 (l := xs) hlen
 have f0 : DataW.trod enc Tryz.prog W 0 (fun _ => true) true n 3 (([c0, c1, c2, c3, c4, c5, c6, c7, c8].drop 0).take (Tryz.prog.cellsOf 3)) = some y0 := hfs 0 _ rfl
 rw [cellsI] at f0
 replace f0 : DataW.trod enc Tryz.prog W 0 (fun _ => true) true n 3 [c0] = some y0 := f0
 have f1 : DataW.trod enc Tryz.prog W 0 (fun _ => true) true n 3 (([c0, c1, c2, c3, c4, c5, c6, c7, c8].drop 1).take (Tryz.prog.cellsOf 3)) = some y1 := hfs 1 _ rfl
 rw [cellsI] at f1
 replace f1 : DataW.trod enc Tryz.prog W 0 (fun _ => true) true n 3 [c1] = some y1 := f1
 have f2 : DataW.trod enc Tryz.prog W 0 (fun _ => true) true n 3 (([c0, c1, c2, c3, c4, c5, c6, c7, c8].drop 2).take (Tryz.prog.cellsOf 3)) = some y2 := hfs 2 _ rfl
 rw [cellsI] at f2
 replace f2 : DataW.trod enc Tryz.prog W 0 (fun _ => true) true n 3 [c2] = some y2 := f2
 have f3 : DataW.trod enc Tryz.prog W 0 (fun _ => true) true n 3 (([c0, c1, c2, c3, c4, c5, c6, c7, c8].drop 3).take (Tryz.prog.cellsOf 3)) = some y3 := hfs 3 _ rfl
 rw [cellsI] at f3
 replace f3 : DataW.trod enc Tryz.prog W 0 (fun _ => true) true n 3 [c3] = some y3 := f3
 have f4 : DataW.trod enc Tryz.prog W 0 (fun _ => true) true n 3 (([c0, c1, c2, c3, c4, c5, c6, c7, c8].drop 4).take (Tryz.prog.cellsOf 3)) = some y4 := hfs 4 _ rfl
 rw [cellsI] at f4
 replace f4 : DataW.trod enc Tryz.prog W 0 (fun _ => true) true n 3 [c4] = some y4 := f4
 have f5 : DataW.trod enc Tryz.prog W 0 (fun _ => true) true n 23 (([c0, c1, c2, c3, c4, c5, c6, c7, c8].drop 5).take (Tryz.prog.cellsOf 23)) = some y5 := hfs 5 _ rfl
 rw [cellsL] at f5
 replace f5 : DataW.trod enc Tryz.prog W 0 (fun _ => true) true n 23 [c5, c6] = some y5 := f5
 have f6 : DataW.trod enc Tryz.prog W 0 (fun _ => true) true n 24 (([c0, c1, c2, c3, c4, c5, c6, c7, c8].drop 7).take (Tryz.prog.cellsOf 24)) = some y6 := hfs 6 _ rfl
 rw [cellsU32] at f6
 replace f6 : DataW.trod enc Tryz.prog W 0 (fun _ => true) true n 24 [c7] = some y6 := f6
 have f7 : DataW.trod enc Tryz.prog W 0 (fun _ => true) true n 9 (([c0, c1, c2, c3, c4, c5, c6, c7, c8].drop 8).take (Tryz.prog.cellsOf 9)) = some y7 := hfs 7 _ rfl
 rw [cellsS] at f7
 replace f7 : DataW.trod enc Tryz.prog W 0 (fun _ => true) true n 9 [c8] = some y7 := f7
 obtain ⟨k0, e0, _, _⟩ := DataW.trod_int Tryz.underlying3 f0
 obtain ⟨k1, e1, _, _⟩ := DataW.trod_int Tryz.underlying3 f1
 obtain ⟨k2, e2, _, _⟩ := DataW.trod_int Tryz.underlying3 f2
 obtain ⟨k3, e3, _, _⟩ := DataW.trod_int Tryz.underlying3 f3
 obtain ⟨k4, e4, _, _⟩ := DataW.trod_int Tryz.underlying3 f4
 obtain ⟨z0, z1, m, _, _, g0, g1⟩ := trod_struct2 Tryz.underlying23 f5
 replace g0 : DataW.trod enc Tryz.prog W 0 (fun _ => true) true m 3 (([c5, c6].drop 0).take (Tryz.prog.cellsOf 3)) = some z0 := g0
 replace g1 : DataW.trod enc Tryz.prog W 0 (fun _ => true) true m 3 (([c5, c6].drop 1).take (Tryz.prog.cellsOf 3)) = some z1 := g1
 rw [cellsI] at g0 g1
 replace g0 : DataW.trod enc Tryz.prog W 0 (fun _ => true) true m 3 [c5] = some z0 := g0
 replace g1 : DataW.trod enc Tryz.prog W 0 (fun _ => true) true m 3 [c6] = some z1 := g1
 obtain ⟨k5, e5, _, _⟩ := DataW.trod_int Tryz.underlying3 g0
 obtain ⟨k6, e6, _, _⟩ := DataW.trod_int Tryz.underlying3 g1
 obtain ⟨k7, e7, _, wf⟩ := DataW.trod_int Tryz.underlying24 f6
 obtain ⟨t, e8, _, _⟩ := DataW.trod_string Tryz.underlying9 f7
 have h0 : c0 = .int .i64 k0 := by simpa [Value.cells] using e0
 have h1 : c1 = .int .i64 k1 := by simpa [Value.cells] using e1
 have h2 : c2 = .int .i64 k2 := by simpa [Value.cells] using e2
 have h3 : c3 = .int .i64 k3 := by simpa [Value.cells] using e3
 have h4 : c4 = .int .i64 k4 := by simpa [Value.cells] using e4
 have h5 : c5 = .int .i64 k5 := by simpa [Value.cells] using e5
 have h6 : c6 = .int .i64 k6 := by simpa [Value.cells] using e6
 have h7 : c7 = .int .u32 k7 := by simpa [Value.cells] using e7
 have h8 : c8 = .string t := by simpa [Value.cells] using e8
 subst h0 h1 h2 h3 h4 h5 h6 h7 h8
 refine ⟨k0, k1, k2, k3, k4, k5, k6, k7, t, rfl, ?_⟩
 simp only [Lit.wf, IntKind.min, IntKind.max, IntKind.signed, IntKind.bits, Bool.and_eq_true] at wf
 simp at wf
 omega
set_option maxRecDepth 100000 in
theorem open_damage {v : Value} {d : DataW H} {p : List MemPlace} {b0 : Nat} (hval : Value.okWide Tryz.prog W .any b0 56 v) (hd : DataW.Trod enc Tryz.prog W 0 (fun _ => true) true 56 v d p) :
  ∃ (k r s i l d p a : Int) (t : ByteArray) (m1 m2 x n b : Nat), v = .agg #[.int .i64 k, .int .i64 r, .int .i64 s, .int .i64 i, .int .i64 l, .int .i64 d, .int .i64 p, .int .u32 a, .string t, .int .u8 (m1 : Int), .int .u8 (m2 : Int), .int .u16 (x : Int), .int .u16 (n : Int), .int .u8 (b : Int)] ∧ (0 ≤ a ∧ a < 4294967296) ∧ m1 < 256 ∧ m2 < 256 ∧ x < 65536 ∧ n < 65536 ∧ b < 256 := by
 obtain ⟨⟨cs⟩, rfl, hsz⟩ := okWide_struct Tryz.underlying56 hval
 rw [cellsDmg] at hsz
 obtain ⟨c0, c1, c2, c3, c4, c5, c6, c7, c8, c9, c10, c11, c12, c13, rfl⟩ := list14 (l := cs) hsz
 obtain ⟨fuel, hf⟩ := hd
 obtain ⟨xs, n, _, _, _, hlen, hfs⟩ := DataW.trod_struct Tryz.underlying56 hf
 obtain ⟨y0, y1, y2, y3, y4, rfl⟩ := list5 (l := xs) hlen
 have f0 : DataW.trod enc Tryz.prog W 0 (fun _ => true) true n 26 (([c0, c1, c2, c3, c4, c5, c6, c7, c8, c9, c10, c11, c12, c13].drop 0).take (Tryz.prog.cellsOf 26)) = some y0 := hfs 0 _ rfl
 rw [cellsF] at f0
 replace f0 : DataW.trod enc Tryz.prog W 0 (fun _ => true) true n 26 [c0, c1, c2, c3, c4, c5, c6, c7, c8] = some y0 := f0
 have f1 : DataW.trod enc Tryz.prog W 0 (fun _ => true) true n 54 (([c0, c1, c2, c3, c4, c5, c6, c7, c8, c9, c10, c11, c12, c13].drop 9).take (Tryz.prog.cellsOf 54)) = some y1 := hfs 1 _ rfl
 rw [cellsPair8] at f1
 replace f1 : DataW.trod enc Tryz.prog W 0 (fun _ => true) true n 54 [c9, c10] = some y1 := f1
 have f2 : DataW.trod enc Tryz.prog W 0 (fun _ => true) true n 29 (([c0, c1, c2, c3, c4, c5, c6, c7, c8, c9, c10, c11, c12, c13].drop 11).take (Tryz.prog.cellsOf 29)) = some y2 := hfs 2 _ rfl
 rw [cellsHalf] at f2
 replace f2 : DataW.trod enc Tryz.prog W 0 (fun _ => true) true n 29 [c11] = some y2 := f2
 have f3 : DataW.trod enc Tryz.prog W 0 (fun _ => true) true n 29 (([c0, c1, c2, c3, c4, c5, c6, c7, c8, c9, c10, c11, c12, c13].drop 12).take (Tryz.prog.cellsOf 29)) = some y3 := hfs 3 _ rfl
 rw [cellsHalf] at f3
 replace f3 : DataW.trod enc Tryz.prog W 0 (fun _ => true) true n 29 [c12] = some y3 := f3
 have f4 : DataW.trod enc Tryz.prog W 0 (fun _ => true) true n 5 (([c0, c1, c2, c3, c4, c5, c6, c7, c8, c9, c10, c11, c12, c13].drop 13).take (Tryz.prog.cellsOf 5)) = some y4 := hfs 4 _ rfl
 rw [cellsByte] at f4
 replace f4 : DataW.trod enc Tryz.prog W 0 (fun _ => true) true n 5 [c13] = some y4 := f4
 obtain ⟨k, r, s, i, l, d, p, a, t, hfr, ha⟩ := frame_trod f0
 simp only [List.cons.injEq, and_true] at hfr
 obtain ⟨rfl, rfl, rfl, rfl, rfl, rfl, rfl, rfl, rfl⟩ := hfr
 obtain ⟨zs, m, _, _, _, hl2, hfs2⟩ := DataW.trod_array Tryz.underlying54 f1
 obtain ⟨z0, z1, rfl⟩ : ∃ z0 z1, zs = [z0, z1] := by
  match zs, hl2 with
  | [z0, z1], _ => exact ⟨z0, z1, rfl⟩
 have q0 : DataW.trod enc Tryz.prog W 0 (fun _ => true) true m 5 (([c9, c10].drop (0 * Tryz.prog.cellsOf 5)).take (Tryz.prog.cellsOf 5)) = some z0 := hfs2 0 (by omega)
 rw [cellsByte] at q0
 replace q0 : DataW.trod enc Tryz.prog W 0 (fun _ => true) true m 5 [c9] = some z0 := q0
 have q1 : DataW.trod enc Tryz.prog W 0 (fun _ => true) true m 5 (([c9, c10].drop (1 * Tryz.prog.cellsOf 5)).take (Tryz.prog.cellsOf 5)) = some z1 := hfs2 1 (by omega)
 rw [cellsByte] at q1
 replace q1 : DataW.trod enc Tryz.prog W 0 (fun _ => true) true m 5 [c10] = some z1 := q1
 obtain ⟨x9, e9, _, w9⟩ := DataW.trod_int Tryz.underlying5 q0
 obtain ⟨x10, e10, _, w10⟩ := DataW.trod_int Tryz.underlying5 q1
 obtain ⟨x11, e11, _, w11⟩ := DataW.trod_int Tryz.underlying29 f2
 obtain ⟨x12, e12, _, w12⟩ := DataW.trod_int Tryz.underlying29 f3
 obtain ⟨x13, e13, _, w13⟩ := DataW.trod_int Tryz.underlying5 f4
 have h9 : c9 = .int .u8 x9 := by simpa [Value.cells] using e9
 have h10 : c10 = .int .u8 x10 := by simpa [Value.cells] using e10
 have h11 : c11 = .int .u16 x11 := by simpa [Value.cells] using e11
 have h12 : c12 = .int .u16 x12 := by simpa [Value.cells] using e12
 have h13 : c13 = .int .u8 x13 := by simpa [Value.cells] using e13
 subst h9 h10 h11 h12 h13
 obtain ⟨m1, rfl, hm1⟩ := nat_of_u8 w9
 obtain ⟨m2, rfl, hm2⟩ := nat_of_u8 w10
 obtain ⟨x, rfl, hx⟩ := nat_of_u16 w11
 obtain ⟨n2, rfl, hn⟩ := nat_of_u16 w12
 obtain ⟨b, rfl, hb⟩ := nat_of_u8 w13
 exact ⟨k, r, s, i, l, d, p, a, t, m1, m2, x, n2, b, rfl, ha, hm1, hm2, hx, hn, hb⟩
end
end Go.Proofs.YtjennpcadjdnlaaGreatDoor
