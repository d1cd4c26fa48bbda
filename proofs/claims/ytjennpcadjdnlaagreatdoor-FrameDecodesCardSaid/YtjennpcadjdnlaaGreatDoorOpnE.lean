/-
  The argument of FrameDecodes, opened: a change.
-/
import Derived.Test.YtjennpcadjdnlaaGreatDoorOpnA
import Derived.Test.YtjennpcadjdnlaaGreatDoorFrY
namespace Go.Proofs.YtjennpcadjdnlaaGreatDoor
open Go.ChangeShapes Go.WideShapes Go.ChangeAt Go.RowKit Go.Deep

theorem cellsB8s : Tryz.prog.cellsOf 28 = 1 := by kernel_rfl
theorem cellsU16s : Tryz.prog.cellsOf 27 = 1 := by kernel_rfl
theorem cellsU16 : Tryz.prog.cellsOf 29 = 1 := by kernel_rfl
theorem cellsChange : Tryz.prog.cellsOf 31 = 3 := by kernel_rfl
theorem list3 {α : Type} {l : List α} (h : l.length = 3) : ∃ c0 c1 c2, l = [c0, c1, c2] := by
  match l, h with
  | [c0, c1, c2], _ => exact ⟨c0, c1, c2, rfl⟩
section
variable {H : Type} {enc : TypeId × Value → H} {w : World}
theorem u16R_nums {v : Value} {xs : List Nat} (h : SlAt U16R w v xs) : SlAt (PlainR u16V) w v xs ∧ ∀ x ∈ xs, x < 65536 := by
  obtain ⟨A, c, rfl, h1, h2, h3⟩ := h
  refine ⟨⟨A, c, rfl, h1, h2, fun i x hi => ?_⟩, fun b hb => ?_⟩
  · obtain ⟨b, o, u, e, hc, hr⟩ := h3 i x hi
    exact ⟨b, o, u, e, hc, hr.1⟩
  · obtain ⟨i, hi⟩ := List.mem_iff_getElem?.1 hb
    obtain ⟨_, _, _, _, _, hr⟩ := h3 i b hi
    exact hr.2
set_option maxRecDepth 100000 in
theorem open_change {v : Value} {d : DataW H} {p : List MemPlace} {b0 : Nat} (hval : Value.okWide Tryz.prog w .any b0 31 v) (hd : DataW.Trod enc Tryz.prog w 0 (fun _ => true) true 31 v d p) :
    ∃ (va vt : Value) (xs ys : List Nat) (kp : Nat), v = .agg #[va, vt, .int .u16 (kp : Int)] ∧ SlAt (PlainR u16V) w va xs ∧ (∀ x ∈ xs, x < 65536) ∧ BytesAt w vt ys ∧ Bytes ys ∧ kp < 65536 := by
  obtain ⟨⟨cs⟩, rfl, hsz⟩ := okWide_struct Tryz.underlying31 hval
  rw [cellsChange] at hsz
  obtain ⟨c0, c1, c2, rfl⟩ := list3 (l := cs) hsz
  obtain ⟨fuel, hf⟩ := hd
  obtain ⟨zs, n, _, _, _, hlen, hfs⟩ := DataW.trod_struct Tryz.underlying31 hf
  obtain ⟨y0, y1, y2, rfl⟩ := list3 (l := zs) hlen
  have f0 : DataW.trod enc Tryz.prog w 0 (fun _ => true) true n 27 (([c0, c1, c2].drop 0).take (Tryz.prog.cellsOf 27)) = some y0 := hfs 0 _ rfl
  rw [cellsU16s] at f0
  replace f0 : DataW.trod enc Tryz.prog w 0 (fun _ => true) true n 27 [c0] = some y0 := f0
  have f1 : DataW.trod enc Tryz.prog w 0 (fun _ => true) true n 28 (([c0, c1, c2].drop 1).take (Tryz.prog.cellsOf 28)) = some y1 := hfs 1 _ rfl
  rw [cellsB8s] at f1
  replace f1 : DataW.trod enc Tryz.prog w 0 (fun _ => true) true n 28 [c1] = some y1 := f1
  have f2 : DataW.trod enc Tryz.prog w 0 (fun _ => true) true n 29 (([c0, c1, c2].drop 2).take (Tryz.prog.cellsOf 29)) = some y2 := hfs 2 _ rfl
  rw [cellsU16] at f2
  replace f2 : DataW.trod enc Tryz.prog w 0 (fun _ => true) true n 29 [c2] = some y2 := f2
  obtain ⟨k2, e2, _, wf⟩ := DataW.trod_int Tryz.underlying29 f2
  have h2 : c2 = .int .u16 k2 := by simpa [Value.cells] using e2
  obtain ⟨kp, rfl, hkp⟩ := nat_of_u16 wf
  obtain ⟨xs, hx⟩ := open_slAt (R := U16R) Tryz.underlying27 (by kernel_rfl) f0 fun u m y hy => by
    obtain ⟨z, hu, _, hw⟩ := DataW.trod_int Tryz.underlying29 hy
    simp only [List.cons.injEq, and_true] at hu
    obtain ⟨m, rfl, hm⟩ := nat_of_u16 hw
    exact ⟨m, hu, hm⟩
  obtain ⟨ys, hy⟩ := open_slAt (R := ByR) Tryz.underlying28 (by kernel_rfl) f1 fun u m y hy => by
    obtain ⟨z, hu, _, hw⟩ := DataW.trod_int Tryz.underlying5 hy
    simp only [List.cons.injEq, and_true] at hu
    obtain ⟨m, rfl, hm⟩ := nat_of_u8 hw
    exact ⟨m, hu, hm⟩
  subst h2
  obtain ⟨x1, x2⟩ := u16R_nums hx
  obtain ⟨y1, y2⟩ := byR_bytes hy
  exact ⟨c0, c1, xs, ys, kp, rfl, x1, x2, y1, y2, hkp⟩
end
end Go.Proofs.YtjennpcadjdnlaaGreatDoor
