/-
  Joined: VqM.
-/
import Derived.Test.YtbccghbngaiceaaGreatDoorMMn08
set_option linter.all false
set_option maxRecDepth 100000
set_option maxHeartbeats 64000000
namespace Go.Proofs.YtbccghbngaiceaaGreatDoor
section
open Go.RowKit
theorem sumX_nonneg {l : List Ext} (h : ∀ x ∈ l, extB x = true) : 0 ≤ sumX l := by
 induction l with
 | nil => exact Int.le_refl _
 | cons x r ih =>
  have h1 := of_decide_eq_true (h x List.mem_cons_self)
  have h2 := ih fun y hy => h y (List.mem_cons_of_mem _ hy)
  rw [sumX]
  omega
theorem encontent_ok (w : World) (e : Ent) (va vx : Value) (hvx : SeqAt extS w vx e.exts) (h : EntOk e) : Calls Tryz.prog 180 #[entV e va vx] w fun r w' => r = .returned (.int .i64 0) ∧ Below w.heap.size w w' := by
 obtain ⟨k, path, attrs, t, size, dig, exts⟩ := e
 have hsize := h.size
 have hdig := h.dig
 have hexts := h.exts
 clear h
 dsimp only at hvx hsize hdig hexts
 rw [entV]
 dsimp only
 have Hvx := Lib.hid hvx
 obtain ⟨Ax, cx, rfl, hx1, hx2⟩ := hvx.slice
 clear hvx
 have hK := Blk.new w 48 [.int .i64 k, .string path, va, .string t, .int .i64 size, .string dig, .slice Ax exts.length cx]
 change Blk (w.alloc (.cells #[.int .i64 k, .string path, va, .string t, .int .i64 size, .string dig, .slice Ax exts.length cx] 48)) _ _ _ at hK
 have HK := Lib.hid hK
 have HB := Lib.hid ((Below.refl w.heap.size w).alloc (Nat.le_refl _) (.cells #[.int .i64 k, .string path, va, .string t, .int .i64 size, .string dig, .slice Ax exts.length cx] 48))
 clear hK
 by_cases h1 : k = 1
 ·have i1 : (k == 1) = true := by rw [h1]; rfl
  have i1' : (k != 1) = false := by rw [h1]; rfl
  have hd := hdig.1 h1
  have i2 : ((dig.size : Int) != 32) = false := by rw [hd]; rfl
  have i3 : ¬ size < 0 := by omega
  have i4 : ¬ 65536 < size := by omega
  have HX := Lib.hid hexts.2.1
  have HS := Lib.hid hexts.2.2
  clear h1 hsize hdig hexts hd
  go_enter Tryz.func180, Tryz.ntmps180
  go_upto_region 2 with fail
  generalize w.alloc (.cells #[.int .i64 k, .string path, va, .string t, .int .i64 size, .string dig, .slice Ax exts.length cx] 48) = wa at *
  have c0 := HK.out.cell (i := 0) rfl
  have c4 := HK.out.cell (i := 4) rfl
  have c5 := HK.out.cell (i := 5) rfl
  have c6 := HK.out.cell (i := 6) rfl
  go_wp2
  go_loopw [32] (fun x wr => ∃ i : Nat, i ≤ exts.length ∧ x = .int .i64 (i : Int) ∧ Below wa.heap.size wa wr) (fun x _ => exts.length - (intOf x).toNat)
  case atStart => exact ⟨0, by omega, rfl, Below.refl _ _⟩
  case round =>
   obtain ⟨i, hi, rfl, hB⟩ := hrel
   have HBr := Lib.hid hB
   have HKr := Lib.hid (HK.out.kept hB)
   clear hB c0 c4 c5 c6
   have c0 := HKr.out.cell (i := 0) rfl
   have c6 := HKr.out.cell (i := 6) rfl
   by_cases h : i < exts.length
   ·have hiI : (i : Int) < exts.length := by omega
    obtain ⟨x, hx'⟩ : ∃ x, exts[i]? = some x := ⟨_, List.getElem?_eq_getElem h⟩
    have hxb := of_decide_eq_true (HX.out x (List.mem_of_getElem? hx'))
    obtain ⟨_, _, e9, _, _, h4⟩ := Hvx.out.below (HB.out.trans (HBr.out.mono HB.out.size))
    cases e9
    obtain ⟨b, o, cs, rfl, rfl, hc⟩ := h4 i x hx'
    obtain ⟨x0, x1, x2⟩ := x
    dsimp only at hxb
    have e0 : wr.cell? ⟨b, o + i * 3, none⟩ = some (.int .i64 x0) := hc 0 _ rfl
    have e1 : wr.cell? ⟨b, o + i * 3 + 1, none⟩ = some (.int .i64 x1) := hc 1 _ rfl
    have e2 : wr.cell? ⟨b, o + i * 3 + 2, none⟩ = some (.int .i64 x2) := hc 2 _ rfl
    have hT := Blk.new wr 80 [.int .i64 x0, .int .i64 x1, .int .i64 x2]
    change Blk (wr.alloc (.cells #[.int .i64 x0, .int .i64 x1, .int .i64 x2] 80)) _ _ _ at hT
    have HT := Lib.hid hT
    have HBt := Lib.hid (HBr.out.alloc HBr.out.size (.cells #[.int .i64 x0, .int .i64 x1, .int .i64 x2] 80))
    have HKt := Lib.hid (HKr.out.kept ((Below.refl wr.heap.size wr).alloc (Nat.le_refl _) (.cells #[.int .i64 x0, .int .i64 x1, .int .i64 x2] 80)))
    have j1 : ¬ x0 < 0 := by omega
    have j2 : ¬ 255 < x0 := by omega
    have j3 : ¬ x2 < 1 := by omega
    have j4 : ¬ 65536 < x2 := by omega
    have j5 : ¬ x1 < 0 := by omega
    have j6 : ¬ 2147483647 < x1 := by omega
    have j7 : ((x0 == 0) = false) ∨ ((x0 == 0) = true ∧ (x1 != 0) = false) := by
     by_cases q : x0 = 0
     ·refine .inr ⟨by rw [q]; rfl, ?_⟩
      have : x1 = 0 := by
       by_cases q2 : x1 = 0
       ·exact q2
       ·exact absurd ⟨q, q2⟩ hxb.2.2.2.2.2.2
      rw [this]
      rfl
     ·exact .inl (beq_eq_false_iff_ne.2 q)
    clear hc h4 hx' hxb hT
    go_upto_region 12 with fail
    generalize wr.alloc (.cells #[.int .i64 x0, .int .i64 x1, .int .i64 x2] 80) = wt at *
    clear c0 c6 e0 e1 e2
    have c0 := HKt.out.cell (i := 0) rfl
    have t0 := HT.out.cell (i := 0) rfl
    have t1 := HT.out.cell (i := 1) rfl
    have t2 := HT.out.cell (i := 2) rfl
    rcases j7 with j7 | ⟨j7, j8⟩
    ·go_wp2
     go_roundw
     case rel => exact ⟨i + 1, by omega, by go_num, HBt.out⟩
     case measure => simp [intOf]; omega
    ·go_wp2
     go_roundw
     case rel => exact ⟨i + 1, by omega, by go_num, HBt.out⟩
     case measure => simp [intOf]; omega
   ·obtain rfl : i = exts.length := by omega
    have hiI : ¬ ((exts.length : Nat) : Int) < (exts.length : Int) := by omega
    obtain ⟨wy, rfl⟩ : ∃ x, x = wr := ⟨_, rfl⟩
    go_wp2
    go_loopw [5, 81] (fun y x wr => ∃ (i : Nat) (S : Int), i ≤ exts.length ∧ x = .int .i64 (i : Int) ∧ y = .int .i64 S ∧ S = sumX (exts.drop i) ∧ S ≤ 65536 ∧ Below wy.heap.size wy wr) (fun _ x _ => exts.length - (intOf x).toNat)
    case atStart => exact ⟨0, size, by omega, rfl, rfl, by rw [List.drop_zero]; exact HS.out.symm, by omega, Below.refl _ _⟩
    case round =>
     obtain ⟨i, S, hi, rfl, rfl, hS, hS2, hB2⟩ := hrel
     have HSS := Lib.hid hS
     have HB2 := Lib.hid hB2
     clear hS hB2 c0 c6
     by_cases h : i < exts.length
     ·have hiI : (i : Int) < exts.length := by omega
      obtain ⟨x, hx'⟩ : ∃ x, exts[i]? = some x := ⟨_, List.getElem?_eq_getElem h⟩
      have hxb := of_decide_eq_true (HX.out x (List.mem_of_getElem? hx'))
      have hd : exts.drop i = x :: exts.drop (i + 1) := by
       obtain ⟨h1, h2⟩ := List.getElem?_eq_some_iff.1 hx'
       rw [List.drop_eq_getElem_cons h1, h2]
      have hn := sumX_nonneg (l := exts.drop (i + 1)) (fun y hy => HX.out y (List.mem_of_mem_drop hy))
      have hs2 : S = x.l + sumX (exts.drop (i + 1)) := by rw [HSS.out, hd, sumX]
      have HN : Hid (S - x.l = sumX (exts.drop (i + 1))) := Lib.hid (by omega)
      obtain ⟨_, _, e9, _, _, h4⟩ := Hvx.out.below (HB.out.trans ((HBr.out.trans (HB2.out.mono HBr.out.size)).mono HB.out.size))
      cases e9
      obtain ⟨b, o, cs, rfl, rfl, hc⟩ := h4 i x hx'
      obtain ⟨x0, x1, x2⟩ := x
      dsimp only at hxb hs2 HN
      have e0 : wr.cell? ⟨b, o + i * 3, none⟩ = some (.int .i64 x0) := hc 0 _ rfl
      have e1 : wr.cell? ⟨b, o + i * 3 + 1, none⟩ = some (.int .i64 x1) := hc 1 _ rfl
      have e2 : wr.cell? ⟨b, o + i * 3 + 2, none⟩ = some (.int .i64 x2) := hc 2 _ rfl
      have hT := Blk.new wr 80 [.int .i64 x0, .int .i64 x1, .int .i64 x2]
      change Blk (wr.alloc (.cells #[.int .i64 x0, .int .i64 x1, .int .i64 x2] 80)) _ _ _ at hT
      have HT := Lib.hid hT
      have HBt := Lib.hid (HB2.out.alloc HB2.out.size (.cells #[.int .i64 x0, .int .i64 x1, .int .i64 x2] 80))
      have j1 : ¬ S < x2 := by omega
      have j2 : S - x2 ≤ 65536 := by omega
      have jw : IntKind.i64.wrap (S - x2) = S - x2 := IntWalk.i64_in _ (by omega)
      clear hc h4 hx' hxb hT hd hs2 hn
      go_upto_region 20 with fail
      generalize wr.alloc (.cells #[.int .i64 x0, .int .i64 x1, .int .i64 x2] 80) = wt at *
      clear e0 e1 e2
      have t2 := HT.out.cell (i := 2) rfl
      go_wp2
      go_roundw
      case rel => exact ⟨i + 1, _, by omega, by go_num, rfl, HN.out, j2, HBt.out⟩
      case measure => simp [intOf]; omega
     ·obtain rfl : i = exts.length := by omega
      have hiI : ¬ ((exts.length : Nat) : Int) < (exts.length : Int) := by omega
      obtain rfl : S = 0 := by rw [HSS.out, List.drop_length]; rfl
      go_wp2
      go_ret
      exact ⟨rfl, HB.out.trans ((HBr.out.trans (HB2.out.mono HBr.out.size)).mono HB.out.size)⟩
 ·have i1 : (k == 1) = false := by rw [beq_eq_false_iff_ne]; exact h1
  have i1' : (k != 1) = true := by rw [bne, i1]; rfl
  obtain rfl : size = 0 := hsize.2.2 h1
  have hd := hdig.2 h1
  have i2 : ((dig.size : Int) != 0) = false := by rw [hd]; rfl
  obtain rfl : exts = [] := by
   cases exts with
   | nil => rfl
   | cons x r => exact absurd (hexts.1 (by simp)) h1
  clear h1 hsize hdig hexts hd hx1
  go_enter Tryz.func180, Tryz.ntmps180
  go_upto_region 2 with fail
  change Blk (w.alloc (.cells #[.int .i64 k, .string path, va, .string t, .int .i64 0, .string dig, .slice Ax 0 cx] 48)) _ _ [.int .i64 k, .string path, va, .string t, .int .i64 0, .string dig, .slice Ax 0 cx] at HK
  have HK := Lib.hid HK
  generalize w.alloc (.cells #[.int .i64 k, .string path, va, .string t, .int .i64 0, .string dig, .slice Ax 0 cx] 48) = wa at *
  have c0 := HK.out.cell (i := 0) rfl
  have c4 := HK.out.cell (i := 4) rfl
  have c5 := HK.out.cell (i := 5) rfl
  have c6 := HK.out.cell (i := 6) rfl
  go_wp2
  go_loopw [32] (fun x wr => x = .int .i64 0 ∧ wa = wr) (fun x _ => 0)
  case atStart => exact ⟨rfl, rfl⟩
  case round =>
   obtain ⟨rfl, rfl⟩ := hrel
   go_wp2
   go_loopw [5, 81] (fun y x wr => x = .int .i64 0 ∧ y = .int .i64 0 ∧ wa = wr) (fun x _ _ => 0)
   case atStart => exact ⟨rfl, rfl, rfl⟩
   case round =>
    obtain ⟨rfl, rfl, rfl⟩ := hrel
    go_wp2
    go_ret
    exact ⟨rfl, HB.out⟩
end
end Go.Proofs.YtbccghbngaiceaaGreatDoor
