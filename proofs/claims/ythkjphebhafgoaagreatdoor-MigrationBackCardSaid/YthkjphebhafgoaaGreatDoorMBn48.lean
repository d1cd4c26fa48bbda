/-
  Joined: McA.
-/
import Derived.Test.YthkjphebhafgoaaGreatDoorMBn47
set_option linter.all false
set_option maxRecDepth 100000
set_option maxHeartbeats 64000000
namespace Go.Proofs.YthkjphebhafgoaaGreatDoor
section
open Go.RowKit
theorem sesS_of {x : Ses} (h : SmS x) (h30 : x.ents.length ≤ 30) : SesS x :=
 ⟨by have := h.1; omega, by have := h.2.1; omega, by have := h.2.2.1; omega, by have := h.2.2.2.1; omega, fun e he => by have := h.2.2.2.2 e he; exact ⟨by have := this.1; omega, by have := this.2; omega⟩⟩
theorem great41_any (w : World) (v : Value) (l : List Ses) (hv : SeqAt sesS w v l) : Calls Tryz.prog 5 #[v] w fun r w' => (∃ k : Int, r = .returned (.int .i64 k) ∧ (¬ 0 < k → l.length ≤ 8 ∧ ∀ x ∈ l, SesS x)) ∧ Below w.heap.size w w' := by
 have HV := Lib.hid hv
 obtain ⟨A, c, rfl, _, _⟩ := hv.slice
 clear hv
 by_cases h8 : (8 : Int) < l.length
 ·go_enter Tryz.func5, Tryz.ntmps5
  go_wp2
  go_ret
  exact ⟨⟨_, rfl, fun h => by first | exact absurd h (by decide) | exact absurd (show (0 : Int) < 1 by decide) h⟩, Below.refl _ _⟩
 have H8 : Hid (l.length ≤ 8) := Lib.hid (by omega)
 go_enter Tryz.func5, Tryz.ntmps5
 go_wp2
 go_loopw [3, 13] (fun y z wr => ∃ (i : Nat) (n : Int), i ≤ l.length ∧ y = .int .i64 n ∧ z = .int .i64 (i : Int) ∧ (∀ x ∈ l.take i, SesS x) ∧ Below w.heap.size w wr) (fun _ z _ => l.length - (intOf z).toNat)
 case atStart => exact ⟨0, 0, by omega, rfl, rfl, fun e he => by simp at he, Below.refl _ _⟩
 case round =>
  obtain ⟨i, n, hi, rfl, rfl, hs, hB⟩ := hrel
  have HS := Lib.hid hs
  have HBr := Lib.hid hB
  clear hB hs
  by_cases h : i < l.length
  ·have hiI : (i : Int) < l.length := by omega
   obtain ⟨x, hx⟩ : ∃ x, l[i]? = some x := ⟨_, List.getElem?_eq_getElem h⟩
   have Hx := Lib.hid hx
   obtain ⟨_, _, e9, _, _, h4⟩ := HV.out.below HBr.out
   cases e9
   obtain ⟨b, o, cs, rfl, hR9, hc⟩ := h4 i x hx
   obtain ⟨ve, rfl, hve⟩ := hR9
   have hBa := (Below.refl wr.heap.size wr).alloc (Nat.le_refl _) (.cells #[.int .i64 x.num, .int .i64 x.date, .string x.prev, ve, .string x.str, .string x.sig] 43)
   have HG := Lib.hid (great40_any _ x ve (hve.below hBa))
   have HVe := Lib.hid (hve.below hBa)
   obtain ⟨Ae, ce, rfl, _, _⟩ := hve.slice
   have e0 : wr.cell? ⟨b, o + i * 6, none⟩ = some (.int .i64 x.num) := hc 0 _ rfl
   have e1 : wr.cell? ⟨b, o + i * 6 + 1, none⟩ = some (.int .i64 x.date) := hc 1 _ rfl
   have e2 : wr.cell? ⟨b, o + i * 6 + 2, none⟩ = some (.string x.prev) := hc 2 _ rfl
   have e3 : wr.cell? ⟨b, o + i * 6 + 3, none⟩ = some (.slice Ae x.ents.length ce) := hc 3 _ rfl
   have e4 : wr.cell? ⟨b, o + i * 6 + 4, none⟩ = some (.string x.str) := hc 4 _ rfl
   have e5 : wr.cell? ⟨b, o + i * 6 + 5, none⟩ = some (.string x.sig) := hc 5 _ rfl
   have hK : Blk (wr.alloc (.cells #[.int .i64 x.num, .int .i64 x.date, .string x.prev, .slice Ae x.ents.length ce, .string x.str, .string x.sig] 43)) wr.heap.size 43 [.int .i64 x.num, .int .i64 x.date, .string x.prev, .slice Ae x.ents.length ce, .string x.str, .string x.sig] := Blk.new wr _ _
   have HK := Lib.hid hK
   have HB1 := Lib.hid (HBr.out.trans (hBa.mono HBr.out.size))
   clear hc h4 hx hve hBa hK
   go_upto_region 7 with fail
   clear e0 e1 e2 e3 e4 e5
   generalize wr.alloc (.cells #[.int .i64 x.num, .int .i64 x.date, .string x.prev, .slice Ae x.ents.length ce, .string x.str, .string x.sig] 43) = wb at *
   generalize wr.heap.size = g at *
   have a0 := HK.out.cell (i := 0) rfl
   have a1 := HK.out.cell (i := 1) rfl
   have a2 := HK.out.cell (i := 2) rfl
   have a3 := HK.out.cell (i := 3) rfl
   have a4 := HK.out.cell (i := 4) rfl
   have a5 := HK.out.cell (i := 5) rfl
   by_cases h30 : (30 : Int) < x.ents.length
   ·go_wp2
    go_ret
    exact ⟨⟨_, rfl, fun h => by first | exact absurd h (by decide) | exact absurd (show (0 : Int) < 1 by decide) h⟩, HB1.out⟩
   go_wp2_with fail
   refine HG.out.mono ?_
   rintro e2 w2 ⟨⟨k, rfl, hk⟩, hb⟩
   have HB2 := Lib.hid (HB1.out.trans (hb.mono HB1.out.size))
   have HVe2 := Lib.hid (HVe.out.below hb)
   have HK2 := Lib.hid (HK.out.kept hb)
   have Hk := Lib.hid hk
   clear hk hb a0 a1 a2 a3 a4 a5 HG HVe HK
   by_cases h1 : k = 1
   ·have g1 : (k == 1) = true := by rw [h1]; rfl
    clear h1
    go_wp2_with fail
    go_ret
    exact ⟨⟨_, rfl, fun h => by first | exact absurd h (by decide) | exact absurd (show (0 : Int) < 1 by decide) h⟩, HB2.out⟩
   have g1 : (k == 1) = false := beq_eq_false_iff_ne.2 h1
   have HS2 := Lib.hid (take_memM Hx.out HS.out (sesS_of (Hk.out h1) (by omega)))
   have a3 := HK2.out.cell (i := 3) rfl
   have a4 := HK2.out.cell (i := 4) rfl
   clear h1 h30
   go_wp2_with fail
   go_loopw [39] (fun z wi => ∃ j : Nat, j ≤ x.ents.length ∧ z = .int .i64 (j : Int) ∧ Below w2.heap.size w2 wi) (fun z _ => x.ents.length - (intOf z).toNat)
   case atStart => exact ⟨0, by omega, rfl, Below.refl _ _⟩
   case round =>
    obtain ⟨j, hj, rfl, hB⟩ := hrel
    have HBj := Lib.hid hB
    clear hB a3 a4
    by_cases hjl : j < x.ents.length
    ·have hjI : (j : Int) < x.ents.length := by omega
     obtain ⟨y, hy⟩ : ∃ y, x.ents[j]? = some y := ⟨_, List.getElem?_eq_getElem hjl⟩
     obtain ⟨_, _, e9, _, _, h4⟩ := HVe2.out.below HBj.out
     cases e9
     obtain ⟨b2, o2, cs, rfl, hR9, hc⟩ := h4 j y hy
     obtain ⟨va, vx, rfl, hva, hvx⟩ := hR9
     have hBa := (Below.refl wr.heap.size wr).alloc (Nat.le_refl _) (.cells #[.int .i64 y.k, .string y.path, va, .string y.tgt, .int .i64 y.size, .string y.dig, vx] 48)
     have HG := Lib.hid (great36_any _ y va vx (hva.below hBa) (hvx.below hBa))
     have HBy := Lib.hid (HBj.out.trans (hBa.mono HBj.out.size))
     obtain ⟨Aa, ca, rfl, _, _⟩ := hva.slice
     obtain ⟨Ax, cx, rfl, _, _⟩ := hvx.slice
     rw [entV] at HG
     have e0 : wr.cell? ⟨b2, o2 + j * 7, none⟩ = some (.int .i64 y.k) := hc 0 _ rfl
     have e1 : wr.cell? ⟨b2, o2 + j * 7 + 1, none⟩ = some (.string y.path) := hc 1 _ rfl
     have e2 : wr.cell? ⟨b2, o2 + j * 7 + 2, none⟩ = some (.slice Aa y.attrs.length ca) := hc 2 _ rfl
     have e3 : wr.cell? ⟨b2, o2 + j * 7 + 3, none⟩ = some (.string y.tgt) := hc 3 _ rfl
     have e4 : wr.cell? ⟨b2, o2 + j * 7 + 4, none⟩ = some (.int .i64 y.size) := hc 4 _ rfl
     have e5 : wr.cell? ⟨b2, o2 + j * 7 + 5, none⟩ = some (.string y.dig) := hc 5 _ rfl
     have e6 : wr.cell? ⟨b2, o2 + j * 7 + 6, none⟩ = some (.slice Ax y.exts.length cx) := hc 6 _ rfl
     have hK : Blk (wr.alloc (.cells #[.int .i64 y.k, .string y.path, .slice Aa y.attrs.length ca, .string y.tgt, .int .i64 y.size, .string y.dig, .slice Ax y.exts.length cx] 48)) wr.heap.size 48 [.int .i64 y.k, .string y.path, .slice Aa y.attrs.length ca, .string y.tgt, .int .i64 y.size, .string y.dig, .slice Ax y.exts.length cx] := Blk.new wr _ _
     have HKy := Lib.hid hK
     clear hc h4 hy hva hvx hBa hK
     go_upto_region 13 with fail
     clear e0 e1 e2 e3 e4 e5 e6
     generalize wr.alloc (.cells #[.int .i64 y.k, .string y.path, .slice Aa y.attrs.length ca, .string y.tgt, .int .i64 y.size, .string y.dig, .slice Ax y.exts.length cx] 48) = wj at *
     generalize wr.heap.size = gy at *
     have y0 := HKy.out.cell (i := 0) rfl
     have y1 := HKy.out.cell (i := 1) rfl
     have y2 := HKy.out.cell (i := 2) rfl
     have y3 := HKy.out.cell (i := 3) rfl
     have y4 := HKy.out.cell (i := 4) rfl
     have y5 := HKy.out.cell (i := 5) rfl
     have y6 := HKy.out.cell (i := 6) rfl
     go_wp2_with fail
     refine HG.out.mono ?_
     rintro e5 w5 ⟨⟨k5, rfl, -⟩, hb⟩
     have HB5 := Lib.hid (HBy.out.trans (hb.mono HBy.out.size))
     clear hb y0 y1 y2 y3 y4 y5 y6
     by_cases h5 : k5 = 1
     ·have g5 : (k5 == 1) = true := by rw [h5]; rfl
      clear h5
      go_wp2_with fail
      go_ret
      exact ⟨⟨_, rfl, fun h => by first | exact absurd h (by decide) | exact absurd (show (0 : Int) < 1 by decide) h⟩, HB2.out.trans (HB5.out.mono HB2.out.size)⟩
     ·have g5 : (k5 == 1) = false := beq_eq_false_iff_ne.2 h5
      clear h5
      go_wp2_with fail
      go_roundw
      case rel => exact ⟨j + 1, by omega, by go_num, HB5.out⟩
      case measure => simp [intOf]; omega
    ·obtain rfl : j = x.ents.length := by omega
     have hjI : ¬ ((x.ents.length : Nat) : Int) < (x.ents.length : Int) := by omega
     go_wp2
     go_roundw
     case rel => exact ⟨i + 1, _, by omega, rfl, by go_num, HS2.out, HB2.out.trans (HBj.out.mono HB2.out.size)⟩
     case measure => simp [intOf]; omega
  ·obtain rfl : i = l.length := by omega
   have hiI : ¬ ((l.length : Nat) : Int) < (l.length : Int) := by omega
   have HF : Hid (l.length ≤ 8 ∧ ∀ x ∈ l, SesS x) := Lib.hid ⟨H8.out, by have := HS.out; rwa [List.take_length] at this⟩
   by_cases hn : (20000 : Int) < n
   ·go_wp2
    go_ret
    exact ⟨⟨_, rfl, fun h => by first | exact absurd h (by decide) | exact absurd (show (0 : Int) < 1 by decide) h⟩, HBr.out⟩
   ·go_wp2
    go_ret
    exact ⟨⟨_, rfl, fun _ => HF.out⟩, HBr.out⟩
end
end Go.Proofs.YthkjphebhafgoaaGreatDoor
