/-
  Joined: MbX.
-/
import Derived.Test.YtbccghbngaiceaaGreatDoorMMn25
set_option linter.all false
set_option maxRecDepth 100000
set_option maxHeartbeats 64000000
namespace Go.Proofs.YtbccghbngaiceaaGreatDoor
section
open Go.RowKit
theorem same32_any (w : World) (v : Value) (fs : List Atr) (h1 : SeqAt atrS w v fs) : Calls Tryz.prog 69 #[v, v] w fun e w' => e = .returned (.bool true) ∧ Below w.heap.size w w' := by
 obtain ⟨A1, cc1, rfl, hl1, hm1, d1⟩ := h1
 have D1 := Lib.hid d1
 clear d1
 go_enter Tryz.func69, Tryz.ntmps69
 go_wp2
 go_loopw [5] (fun x wr => ∃ k : Nat, k ≤ fs.length ∧ x = .int .i64 (k : Int) ∧ Below w.heap.size w wr) (fun x _ => fs.length - (intOf x).toNat)
 case atStart => exact ⟨0, by omega, rfl, Below.refl _ _⟩
 case round =>
  obtain ⟨k, hk, rfl, hB⟩ := hrel
  have HBr := Lib.hid hB
  clear hB
  by_cases h : k < fs.length
  ·have hkI : (k : Int) < fs.length := by omega
   obtain ⟨x, hx⟩ : ∃ x, fs[k]? = some x := ⟨_, List.getElem?_eq_getElem h⟩
   obtain ⟨q1, o1, _, rfl, rfl, g1⟩ := D1.out k _ hx
   have c0 : wr.cell? ⟨q1, o1 + k * 2 + 0, none⟩ = some (.string x.k) := cell_below HBr.out (g1 0 _ rfl)
   have c1 : wr.cell? ⟨q1, o1 + k * 2 + 1, none⟩ = some (.string x.v) := cell_below HBr.out (g1 1 _ rfl)
   rw [Nat.add_zero] at c0
   clear g1 hx D1
   go_upto_region 6 with fail
   go_quiet (fail)
   clear c0 c1
   go_wp2
   go_roundw
   case rel => exact ⟨k + 1, by omega, by go_num, blwN HBr.out nq⟩
   case measure => simp [intOf]; omega
  ·have hkI : ¬ (k : Int) < fs.length := by omega
   go_wp2
   go_ret
   exact ⟨rfl, HBr.out⟩
theorem equal36_any (w : World) (x : Ent) (va vx : Value) (ha : SeqAt atrS w va x.attrs) (hx : SeqAt extS w vx x.exts) : Calls Tryz.prog 37 #[entV x va vx, entV x va vx] w fun e w' => e = .returned (.bool true) ∧ Below w.heap.size w w' := by
 obtain ⟨k, path, attrs, t, size, dig, exts⟩ := x
 dsimp only at ha hx
 rw [entV]
 dsimp only
 have Hx := Lib.hid hx
 obtain ⟨A, c, rfl, _, _⟩ := hx.slice
 have hB1 := (Below.refl w.heap.size w).alloc (Nat.le_refl _) (.cells #[.int .i64 k, .string path, va, .string t, .int .i64 size, .string dig, .slice A exts.length c] 48)
 have hK1 : Blk (w.alloc (.cells #[.int .i64 k, .string path, va, .string t, .int .i64 size, .string dig, .slice A exts.length c] 48)) w.heap.size 48 [.int .i64 k, .string path, va, .string t, .int .i64 size, .string dig, .slice A exts.length c] := Blk.new w _ _
 have HK1 := Lib.hid (hK1.alloc (.cells #[.int .i64 k, .string path, va, .string t, .int .i64 size, .string dig, .slice A exts.length c] 48))
 have hK2 : Blk ((w.alloc (.cells #[.int .i64 k, .string path, va, .string t, .int .i64 size, .string dig, .slice A exts.length c] 48)).alloc (.cells #[.int .i64 k, .string path, va, .string t, .int .i64 size, .string dig, .slice A exts.length c] 48)) (w.alloc (.cells #[.int .i64 k, .string path, va, .string t, .int .i64 size, .string dig, .slice A exts.length c] 48)).heap.size 48 [.int .i64 k, .string path, va, .string t, .int .i64 size, .string dig, .slice A exts.length c] := Blk.new _ _ _
 rw [World.size_alloc] at hK2
 have HK2 := Lib.hid hK2
 have HB := Lib.hid (hB1.alloc hB1.size (.cells #[.int .i64 k, .string path, va, .string t, .int .i64 size, .string dig, .slice A exts.length c] 48))
 have HS := Lib.hid (same32_any _ va attrs (ha.below HB.out))
 have n1 : (path != path) = false := bneV_false rfl
 have n2 : (t != t) = false := bneV_false rfl
 have n3 : (dig != dig) = false := bneV_false rfl
 clear hB1 hK1 hK2 ha hx
 go_enter Tryz.func37, Tryz.ntmps37
 go_upto_region 1 with fail
 generalize (w.alloc (.cells #[.int .i64 k, .string path, va, .string t, .int .i64 size, .string dig, .slice A exts.length c] 48)).alloc (.cells #[.int .i64 k, .string path, va, .string t, .int .i64 size, .string dig, .slice A exts.length c] 48) = w1 at *
 obtain ⟨g, hg⟩ : ∃ g, w.heap.size = g := ⟨_, rfl⟩
 rw [hg] at HK1 HK2 ⊢
 have a0 := HK1.out.cell (i := 0) rfl
 have a1 := HK1.out.cell (i := 1) rfl
 have a2 := HK1.out.cell (i := 2) rfl
 have a3 := HK1.out.cell (i := 3) rfl
 have a4 := HK1.out.cell (i := 4) rfl
 have a5 := HK1.out.cell (i := 5) rfl
 have a6 := HK1.out.cell (i := 6) rfl
 have b0 := HK2.out.cell (i := 0) rfl
 have b1 := HK2.out.cell (i := 1) rfl
 have b2 := HK2.out.cell (i := 2) rfl
 have b3 := HK2.out.cell (i := 3) rfl
 have b4 := HK2.out.cell (i := 4) rfl
 have b5 := HK2.out.cell (i := 5) rfl
 have b6 := HK2.out.cell (i := 6) rfl
 go_wp2_with fail
 refine HS.out.mono ?_
 rintro e2 w2 ⟨rfl, hb2⟩
 have HK1 := Lib.hid (HK1.out.kept hb2)
 have HK2 := Lib.hid (HK2.out.kept hb2)
 have HB2 := Lib.hid (HB.out.trans (hb2.mono HB.out.size))
 have HX2 := Lib.hid (Hx.out.below HB2.out)
 clear hb2 HS HB a0 a1 a2 a3 a4 a5 a6 b0 b1 b2 b3 b4 b5 b6 Hx
 have a0 := HK1.out.cell (i := 0) rfl
 have a1 := HK1.out.cell (i := 1) rfl
 have a2 := HK1.out.cell (i := 2) rfl
 have a3 := HK1.out.cell (i := 3) rfl
 have a4 := HK1.out.cell (i := 4) rfl
 have a5 := HK1.out.cell (i := 5) rfl
 have a6 := HK1.out.cell (i := 6) rfl
 have b0 := HK2.out.cell (i := 0) rfl
 have b1 := HK2.out.cell (i := 1) rfl
 have b2 := HK2.out.cell (i := 2) rfl
 have b3 := HK2.out.cell (i := 3) rfl
 have b4 := HK2.out.cell (i := 4) rfl
 have b5 := HK2.out.cell (i := 5) rfl
 have b6 := HK2.out.cell (i := 6) rfl
 go_wp2_with fail
 go_loopw [5] (fun x wr => ∃ k : Nat, k ≤ exts.length ∧ x = .int .i64 (k : Int) ∧ Below w2.heap.size w2 wr) (fun x _ => exts.length - (intOf x).toNat)
 case atStart => exact ⟨0, by omega, rfl, Below.refl _ _⟩
 case round =>
  obtain ⟨j, hj, rfl, hB⟩ := hrel
  have HBr := Lib.hid hB
  clear hB a0 a1 a2 a3 a4 a5 a6 b0 b1 b2 b3 b4 b5 b6 n1 n2 n3
  have a6 := (HK1.out.kept HBr.out).cell (i := 6) rfl
  have b6 := (HK2.out.kept HBr.out).cell (i := 6) rfl
  by_cases h : j < exts.length
  ·have hjI : (j : Int) < exts.length := by omega
   obtain ⟨x, hx⟩ : ∃ x, exts[j]? = some x := ⟨_, List.getElem?_eq_getElem h⟩
   obtain ⟨_, _, e9, _, _, h4⟩ := HX2.out.below HBr.out
   cases e9
   obtain ⟨b, o, _, rfl, rfl, hc⟩ := h4 j x hx
   have c0 : wr.cell? ⟨b, o + j * 3 + 0, none⟩ = some (.int .i64 x.s) := hc 0 _ rfl
   have c1 : wr.cell? ⟨b, o + j * 3 + 1, none⟩ = some (.int .i64 x.o) := hc 1 _ rfl
   have c2 : wr.cell? ⟨b, o + j * 3 + 2, none⟩ = some (.int .i64 x.l) := hc 2 _ rfl
   rw [Nat.add_zero] at c0
   clear hc h4 hx
   go_upto_region 6 with fail
   go_quiet (fail)
   clear c0 c1 c2 a6 b6
   go_wp2
   go_roundw
   case rel => exact ⟨j + 1, by omega, by go_num, blwN HBr.out nq⟩
   case measure => simp [intOf]; omega
  ·obtain rfl : j = exts.length := by omega
   have hjI : ¬ ((exts.length : Nat) : Int) < (exts.length : Int) := by omega
   go_wp2
   go_ret
   exact ⟨rfl, by rw [← hg]; exact HB2.out.trans (HBr.out.mono HB2.out.size)⟩
theorem same40_any (w : World) (y : Ses) (ve : Value) (hv : SeqAt entS w ve y.ents) : Calls Tryz.prog 21 #[.agg #[.int .i64 y.num, .int .i64 y.date, .string y.prev, ve, .string y.str, .string y.sig], .agg #[.int .i64 y.num, .int .i64 y.date, .string y.prev, ve, .string y.str, .string y.sig]] w fun e w' => e = .returned (.bool true) ∧ Below w.heap.size w w' := by
 obtain ⟨num, date, prev, ents, str, sig⟩ := y
 dsimp only at hv ⊢
 have HV := Lib.hid hv
 obtain ⟨A, c, rfl, _, _⟩ := hv.slice
 have hB1 := (Below.refl w.heap.size w).alloc (Nat.le_refl _) (.cells #[.int .i64 num, .int .i64 date, .string prev, .slice A ents.length c, .string str, .string sig] 43)
 have hK1 : Blk (w.alloc (.cells #[.int .i64 num, .int .i64 date, .string prev, .slice A ents.length c, .string str, .string sig] 43)) w.heap.size 43 [.int .i64 num, .int .i64 date, .string prev, .slice A ents.length c, .string str, .string sig] := Blk.new w _ _
 have HK1 := Lib.hid (hK1.alloc (.cells #[.int .i64 num, .int .i64 date, .string prev, .slice A ents.length c, .string str, .string sig] 43))
 have hK2 : Blk ((w.alloc (.cells #[.int .i64 num, .int .i64 date, .string prev, .slice A ents.length c, .string str, .string sig] 43)).alloc (.cells #[.int .i64 num, .int .i64 date, .string prev, .slice A ents.length c, .string str, .string sig] 43)) (w.alloc (.cells #[.int .i64 num, .int .i64 date, .string prev, .slice A ents.length c, .string str, .string sig] 43)).heap.size 43 [.int .i64 num, .int .i64 date, .string prev, .slice A ents.length c, .string str, .string sig] := Blk.new _ _ _
 rw [World.size_alloc] at hK2
 have HK2 := Lib.hid hK2
 have HB := Lib.hid (hB1.alloc hB1.size (.cells #[.int .i64 num, .int .i64 date, .string prev, .slice A ents.length c, .string str, .string sig] 43))
 have n1 : (prev != prev) = false := bneV_false rfl
 have n2 : (str != str) = false := bneV_false rfl
 have n3 : (sig != sig) = false := bneV_false rfl
 clear hB1 hK1 hK2 hv
 go_enter Tryz.func21, Tryz.ntmps21
 go_upto_region 1 with fail
 generalize (w.alloc (.cells #[.int .i64 num, .int .i64 date, .string prev, .slice A ents.length c, .string str, .string sig] 43)).alloc (.cells #[.int .i64 num, .int .i64 date, .string prev, .slice A ents.length c, .string str, .string sig] 43) = w1 at *
 obtain ⟨g, hg⟩ : ∃ g, w.heap.size = g := ⟨_, rfl⟩
 rw [hg] at HK1 HK2 ⊢
 have a0 := HK1.out.cell (i := 0) rfl
 have b0 := HK2.out.cell (i := 0) rfl
 have a1 := HK1.out.cell (i := 1) rfl
 have b1 := HK2.out.cell (i := 1) rfl
 have a2 := HK1.out.cell (i := 2) rfl
 have b2 := HK2.out.cell (i := 2) rfl
 have a3 := HK1.out.cell (i := 3) rfl
 have b3 := HK2.out.cell (i := 3) rfl
 have a4 := HK1.out.cell (i := 4) rfl
 have b4 := HK2.out.cell (i := 4) rfl
 have a5 := HK1.out.cell (i := 5) rfl
 have b5 := HK2.out.cell (i := 5) rfl
 go_wp2_with fail
 go_loopw [5] (fun x wr => ∃ k : Nat, k ≤ ents.length ∧ x = .int .i64 (k : Int) ∧ Below w1.heap.size w1 wr) (fun x _ => ents.length - (intOf x).toNat)
 case atStart => exact ⟨0, by omega, rfl, Below.refl _ _⟩
 case round =>
  obtain ⟨k, hk, rfl, hB⟩ := hrel
  have HBr := Lib.hid hB
  clear hB a0 a1 a2 a3 a4 a5 b0 b1 b2 b3 b4 b5 n1 n2 n3
  have a3 := (HK1.out.kept HBr.out).cell (i := 3) rfl
  by_cases h : k < ents.length
  ·have hkI : (k : Int) < ents.length := by omega
   obtain ⟨x, hx⟩ : ∃ x, ents[k]? = some x := ⟨_, List.getElem?_eq_getElem h⟩
   obtain ⟨_, _, e9, _, _, h4⟩ := (HV.out.below HB.out).below HBr.out
   cases e9
   obtain ⟨b, o, cs, rfl, hR9, hc⟩ := h4 k x hx
   obtain ⟨va, vx, rfl, hva, hvx⟩ := hR9
   have HVa := Lib.hid hva
   have HVx := Lib.hid hvx
   have HBk : Hid (∀ W, Below wr.heap.size wr W → Calls Tryz.prog 37 #[entV x va vx, entV x va vx] W fun e w' => e = .returned (.bool true) ∧ Below W.heap.size W w') := Lib.hid (fun W hW => equal36_any W x va vx (HVa.out.below hW) (HVx.out.below hW))
   obtain ⟨ka, path, attrs, t, size, dig, exts⟩ := x
   unfold entV at HBk
   dsimp only at HBk hc hva hvx
   obtain ⟨Aa, ca, rfl, _, _⟩ := hva.slice
   obtain ⟨Ax, cx, rfl, _, _⟩ := hvx.slice
   have A := some (⟨b, o, none⟩ : Addr)
   have HCs : Hid (∀ W, Below wr.heap.size wr W → W.cell? ⟨g, 3, none⟩ = some (.slice (some ⟨b, o, none⟩) ents.length c) ∧ W.cell? ⟨g + 1, 3, none⟩ = some (.slice (some ⟨b, o, none⟩) ents.length c) ∧ W.cell? ⟨b, o + k * 7, none⟩ = some (.int .i64 ka) ∧ W.cell? ⟨b, o + k * 7 + 1, none⟩ = some (.string path) ∧ W.cell? ⟨b, o + k * 7 + 2, none⟩ = some (.slice Aa attrs.length ca) ∧ W.cell? ⟨b, o + k * 7 + 3, none⟩ = some (.string t) ∧ W.cell? ⟨b, o + k * 7 + 4, none⟩ = some (.int .i64 size) ∧ W.cell? ⟨b, o + k * 7 + 5, none⟩ = some (.string dig) ∧ W.cell? ⟨b, o + k * 7 + 6, none⟩ = some (.slice Ax exts.length cx)) := Lib.hid (fun W hW => ⟨((HK1.out.kept HBr.out).kept hW).cell (i := 3) rfl, ((HK2.out.kept HBr.out).kept hW).cell (i := 3) rfl, cell_below hW (hc 0 _ rfl), cell_below hW (hc 1 _ rfl), cell_below hW (hc 2 _ rfl), cell_below hW (hc 3 _ rfl), cell_below hW (hc 4 _ rfl), cell_below hW (hc 5 _ rfl), cell_below hW (hc 6 _ rfl)⟩)
   clear A h4 hx hva hvx HVa HVx hc
   go_upto_region 6 with fail
   have HBc := Lib.hid (Below.refl wr.heap.size wr).drew
   refine wp_region_held_drew (S := (fun W => W.cell? ⟨g, 3, none⟩ = some (.slice (some ⟨b, o, none⟩) ents.length c) ∧ W.cell? ⟨g + 1, 3, none⟩ = some (.slice (some ⟨b, o, none⟩) ents.length c) ∧ W.cell? ⟨b, o + k * 7, none⟩ = some (.int .i64 ka) ∧ W.cell? ⟨b, o + k * 7 + 1, none⟩ = some (.string path) ∧ W.cell? ⟨b, o + k * 7 + 2, none⟩ = some (.slice Aa attrs.length ca) ∧ W.cell? ⟨b, o + k * 7 + 3, none⟩ = some (.string t) ∧ W.cell? ⟨b, o + k * 7 + 4, none⟩ = some (.int .i64 size) ∧ W.cell? ⟨b, o + k * 7 + 5, none⟩ = some (.string dig) ∧ W.cell? ⟨b, o + k * 7 + 6, none⟩ = some (.slice Ax exts.length cx))) (by kernel_rfl) ?_ (fun hHeld => ?_)
   ·exact HCs.out _ HBc.out
   refine tk 0 ?_
   refine tk 1 ?_
   refine tk 2 ?_
   refine tk 3 ?_
   refine tk 4 ?_
   refine tk 5 ?_
   refine tk 6 ?_
   refine tk 7 ?_
   refine tk 8 ?_
   refine tk 9 ?_
   refine wpAnyH_ready (rs := [10]) (by kernel_rfl) (by simp) ?_
   refine AllReadyH.cons (o := _) rfl (fun K hK => ?_) ?_
   ·go_simp
    refine (HBk.out _ HBc.out).mono ?_
    rintro e5 w5 ⟨rfl, hb5⟩
    (try go_wp2_with fail)
    have HBc := Lib.hid (HBc.out.trans (hb5.mono HBc.out.size))
    clear hb5
    refine hko hK (by exact HCs.out _ HBc.out) (fun _ => ?_)
    clear hK K
    refine tk 11 ?_
    refine wpAnyH_done (by kernel_rfl) ?_ _
    go_wp2_with fail
    go_roundw
    case rel => exact ⟨k + 1, by omega, by go_num, HBr.out.trans (HBc.out.mono HBr.out.size)⟩
    case measure => simp [intOf]; omega
   exact AllReadyH.nil
  ·obtain rfl : k = ents.length := by omega
   have hkI : ¬ ((ents.length : Nat) : Int) < (ents.length : Int) := by omega
   go_wp2
   go_ret
   exact ⟨rfl, by rw [← hg]; exact HB.out.trans (HBr.out.mono HB.out.size)⟩
theorem same46_any (w : World) (v : Value) (l : List Ses) (hv : SeqAt sesS w v l) : Calls Tryz.prog 8 #[v, v] w fun e w' => e = .returned (.bool true) ∧ Below w.heap.size w w' := by
 have HV := Lib.hid hv
 obtain ⟨A, c, rfl, _, _⟩ := hv.slice
 clear hv
 go_enter Tryz.func8, Tryz.ntmps8
 go_wp2_with fail
 go_loopw [5] (fun x wr => ∃ k : Nat, k ≤ l.length ∧ x = .int .i64 (k : Int) ∧ Below w.heap.size w wr) (fun x _ => l.length - (intOf x).toNat)
 case atStart => exact ⟨0, by omega, rfl, Below.refl _ _⟩
 case round =>
  obtain ⟨k, hk, rfl, hB⟩ := hrel
  have HBr := Lib.hid hB
  clear hB
  by_cases h : k < l.length
  ·have hkI : (k : Int) < l.length := by omega
   obtain ⟨x, hx⟩ : ∃ x, l[k]? = some x := ⟨_, List.getElem?_eq_getElem h⟩
   obtain ⟨_, _, e9, _, _, h4⟩ := HV.out.below HBr.out
   cases e9
   obtain ⟨b, o, cs, rfl, hR9, hc⟩ := h4 k x hx
   obtain ⟨ve, rfl, hve⟩ := hR9
   have HVe := Lib.hid hve
   have HBk : Hid (∀ W, Below wr.heap.size wr W → Calls Tryz.prog 21 #[.agg #[.int .i64 x.num, .int .i64 x.date, .string x.prev, ve, .string x.str, .string x.sig], .agg #[.int .i64 x.num, .int .i64 x.date, .string x.prev, ve, .string x.str, .string x.sig]] W fun e w' => e = .returned (.bool true) ∧ Below W.heap.size W w') := Lib.hid (fun W hW => same40_any W x ve (HVe.out.below hW))
   obtain ⟨num, date, prev, ents, str, sig⟩ := x
   dsimp only at HBk hc hve
   obtain ⟨Ae, ce, rfl, _, _⟩ := hve.slice
   have HCs : Hid (∀ W, Below wr.heap.size wr W → W.cell? ⟨b, o + k * 6, none⟩ = some (.int .i64 num) ∧ W.cell? ⟨b, o + k * 6 + 1, none⟩ = some (.int .i64 date) ∧ W.cell? ⟨b, o + k * 6 + 2, none⟩ = some (.string prev) ∧ W.cell? ⟨b, o + k * 6 + 3, none⟩ = some (.slice Ae ents.length ce) ∧ W.cell? ⟨b, o + k * 6 + 4, none⟩ = some (.string str) ∧ W.cell? ⟨b, o + k * 6 + 5, none⟩ = some (.string sig)) := Lib.hid (fun W hW => ⟨cell_below hW (hc 0 _ rfl), cell_below hW (hc 1 _ rfl), cell_below hW (hc 2 _ rfl), cell_below hW (hc 3 _ rfl), cell_below hW (hc 4 _ rfl), cell_below hW (hc 5 _ rfl)⟩)
   have n2 : (str != str) = false := bneV_false rfl
   clear h4 hx hve HVe hc
   go_upto_region 6 with fail
   have HBc := Lib.hid (Below.refl wr.heap.size wr).drew
   refine wp_region_held_drew (S := (fun W => W.cell? ⟨b, o + k * 6, none⟩ = some (.int .i64 num) ∧ W.cell? ⟨b, o + k * 6 + 1, none⟩ = some (.int .i64 date) ∧ W.cell? ⟨b, o + k * 6 + 2, none⟩ = some (.string prev) ∧ W.cell? ⟨b, o + k * 6 + 3, none⟩ = some (.slice Ae ents.length ce) ∧ W.cell? ⟨b, o + k * 6 + 4, none⟩ = some (.string str) ∧ W.cell? ⟨b, o + k * 6 + 5, none⟩ = some (.string sig))) (by kernel_rfl) ?_ (fun hHeld => ?_)
   ·exact HCs.out _ HBc.out
   refine tk 0 ?_
   refine tk 1 ?_
   refine tk 2 ?_
   refine tk 3 ?_
   refine tk 4 ?_
   refine tk 5 ?_
   refine tk 6 ?_
   refine tk 7 ?_
   refine wpAnyH_ready (rs := [8]) (by kernel_rfl) (by simp) ?_
   refine AllReadyH.cons (o := _) rfl (fun K hK => ?_) ?_
   ·go_simp
    refine (HBk.out _ HBc.out).mono ?_
    rintro e5 w5 ⟨rfl, hb5⟩
    (try go_wp2_with fail)
    have HBc := Lib.hid (HBc.out.trans (hb5.mono HBc.out.size))
    clear hb5
    refine hko hK (by exact HCs.out _ HBc.out) (fun _ => ?_)
    clear hK K
    refine tk 9 ?_
    refine tk 10 ?_
    refine tk 11 ?_
    refine tk 12 ?_
    refine tk 13 ?_
    refine tk 14 ?_
    refine tk 15 ?_
    refine tk 16 ?_
    refine tk 17 ?_
    refine tk 18 ?_
    refine tk 19 ?_
    refine tk 20 ?_
    refine tk 21 ?_
    refine tk 22 ?_
    refine wpAnyH_done (by kernel_rfl) ?_ _
    go_wp2_with fail
    go_roundw
    case rel => exact ⟨k + 1, by omega, by go_num, HBr.out.trans (HBc.out.mono HBr.out.size)⟩
    case measure => simp [intOf]; omega
   exact AllReadyH.nil
  ·obtain rfl : k = l.length := by omega
   have hkI : ¬ ((l.length : Nat) : Int) < (l.length : Int) := by omega
   go_wp2
   go_ret
   exact ⟨rfl, HBr.out⟩
end
end Go.Proofs.YtbccghbngaiceaaGreatDoor
