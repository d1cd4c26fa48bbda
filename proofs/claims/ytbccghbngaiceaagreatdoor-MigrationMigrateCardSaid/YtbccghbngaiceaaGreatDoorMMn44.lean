/-
  Joined: MbY.
-/
import Derived.Test.YtbccghbngaiceaaGreatDoorMMn43
set_option linter.all false
set_option maxRecDepth 100000
set_option maxHeartbeats 64000000
namespace Go.Proofs.YtbccghbngaiceaaGreatDoor
section
open Go.RowKit
theorem copy1N (w0 w : World) (g t r : Nat) (hg : Blk w g 56 [.slice none 0 0]) (ht : Blk w t 39 [.int .u32 7, .string ⟨#[]⟩]) (hr : Blk w r 59 [.slice none 0 0, .slice none 0 0]) (hB : Below w0.heap.size w0 w) (hl : w0.heap.size ≤ r) :
  Calls Tryz.prog 22 #[.pointer (some ⟨g, 0, none⟩), .pointer (some ⟨t, 0, none⟩), .pointer (some ⟨r, 0, none⟩)] w fun e w' => e = .returned (.int .i64 9) ∧ Below w0.heap.size w0 w' := by
 have g0 := hg.cell (i := 0) rfl
 have t0 := ht.cell (i := 0) rfl
 have t1 := ht.cell (i := 1) rfl
 have HR := Lib.hid hr
 have HB := Lib.hid hB
 have HD := Lib.hid (readN w 7 ⟨#[]⟩)
 clear hg ht hr hB
 go_enter Tryz.func22, Tryz.ntmps22
 go_wp2_with fail
 refine HD.out.mono ?_
 rintro e1 w1 ⟨rfl, hb⟩
 have HR1 := Lib.hid (HR.out.kept hb)
 have HB1 := Lib.hid (HB.out.trans (hb.mono HB.out.size))
 clear hb g0 t0 t1 HR HB
 go_upto_region 2 with (refine wpList_store_row rfl 59 (.tmp 2) (.tmp 6) rfl r #[.slice none 0 0, .slice none 0 0] rfl rfl 59 _ HR1.out (by kernel_rfl) rfl (by simp [Value.oneCell']) ?_)
 have HR2 : Hid (Blk (w1.setRow r #[.slice none 0 0, .slice none 0 0]) r 59 [.slice none 0 0, .slice none 0 0]) := Lib.hid (setRow_heap _ _ _ _ _ _ HR1.out)
 have HB2 := Lib.hid (below_setRow HB1.out hl #[.slice none 0 0, .slice none 0 0])
 generalize w1.setRow r #[.slice none 0 0, .slice none 0 0] = w2 at *
 have r0 := HR2.out.cell (i := 0) rfl
 go_wp2_with fail
 refine (when_any w2 true 9).mono ?_
 rintro e3 w3 ⟨rfl, h3⟩
 have hq1 : Blk w3 w2.heap.size 4 [.bool true] := by rw [h3]; exact (Blk.new w2 _ _).alloc _
 have hq2 : Blk w3 (w2.heap.size + 1) 30 [.int .i64 9] := by
  rw [h3]
  have := Blk.new (w2.alloc (.cells #[.bool true] 4)) 30 [.int .i64 9]
  rw [World.size_alloc] at this
  exact this
 have HW := Lib.hid (when1_any w3 _ _ true 9 hq1 hq2)
 have eg := enters_of Tryz.func31 (by kernel_rfl) rfl
 have HB3 : Hid (Below w0.heap.size w0 w3) := Lib.hid (by rw [h3]; exact (HB2.out.alloc HB2.out.size _).alloc (HB2.out.alloc HB2.out.size _).size _)
 clear h3 hq1 hq2 r0
 go_wp2_with fail
 refine HW.out.mono ?_
 rintro e4 w4 ⟨rfl, rfl⟩
 go_wp2_with fail
 go_ret
 exact ⟨rfl, HB3.out⟩
theorem copyN (w : World) : Calls Tryz.prog 9 #[.slice none 0 0, .agg #[.int .u32 7, .string ⟨#[]⟩], .int .u32 8, .agg #[.int .i64 1, .int .i64 0], .string ⟨#[36]⟩] w fun r w' => r = .returned (.tuple #[.slice none 0 0, .int .i64 9]) ∧ Below w.heap.size w w' := by
 obtain ⟨W1, hW1⟩ : ∃ W1, w.alloc (.cells #[.slice none 0 0] 56) = W1 := ⟨_, rfl⟩
 have hn1 : W1.heap.size = w.heap.size + 1 := by rw [← hW1, World.size_alloc]
 have hb1 : Below w.heap.size w W1 := hW1 ▸ (Below.refl _ w).alloc (Nat.le_refl _) _
 obtain ⟨W2, hW2⟩ : ∃ W2, W1.alloc (.cells #[.int .u32 7, .string ⟨#[]⟩] 39) = W2 := ⟨_, rfl⟩
 have hn2 : W2.heap.size = w.heap.size + 1 + 1 := by rw [← hW2, World.size_alloc, hn1]
 have hb2 : Below w.heap.size w W2 := hW2 ▸ hb1.alloc hb1.size _
 obtain ⟨W3, hW3⟩ : ∃ W3, W2.alloc (.cells #[.int .u32 8] 23) = W3 := ⟨_, rfl⟩
 have hn3 : W3.heap.size = w.heap.size + 1 + 1 + 1 := by rw [← hW3, World.size_alloc, hn2]
 have hb3 : Below w.heap.size w W3 := hW3 ▸ hb2.alloc hb2.size _
 obtain ⟨W4, hW4⟩ : ∃ W4, W3.alloc (.cells #[.int .i64 1, .int .i64 0] 25) = W4 := ⟨_, rfl⟩
 have hn4 : W4.heap.size = w.heap.size + 1 + 1 + 1 + 1 := by rw [← hW4, World.size_alloc, hn3]
 have hb4 : Below w.heap.size w W4 := hW4 ▸ hb3.alloc hb3.size _
 obtain ⟨W5, hW5⟩ : ∃ W5, W4.alloc (.cells #[.string ⟨#[36]⟩] 9) = W5 := ⟨_, rfl⟩
 have hn5 : W5.heap.size = w.heap.size + 1 + 1 + 1 + 1 + 1 := by rw [← hW5, World.size_alloc, hn4]
 have hb5 : Below w.heap.size w W5 := hW5 ▸ hb4.alloc hb4.size _
 obtain ⟨W6, hW6⟩ : ∃ W6, W5.alloc (.cells #[.slice none 0 0, .slice none 0 0] 59) = W6 := ⟨_, rfl⟩
 have hn6 : W6.heap.size = w.heap.size + 1 + 1 + 1 + 1 + 1 + 1 := by rw [← hW6, World.size_alloc, hn5]
 have hb6 : Below w.heap.size w W6 := hW6 ▸ hb5.alloc hb5.size _
 obtain ⟨W7, hW7⟩ : ∃ W7, W6.alloc (.cells #[.int .u32 0, .int .i64 0, .int .i64 0, .slice none 0 0] 29) = W7 := ⟨_, rfl⟩
 have hn7 : W7.heap.size = w.heap.size + 1 + 1 + 1 + 1 + 1 + 1 + 1 := by rw [← hW7, World.size_alloc, hn6]
 have hb7 : Below w.heap.size w W7 := hW7 ▸ hb6.alloc hb6.size _
 obtain ⟨W8, hW8⟩ : ∃ W8, W7.alloc (.cells #[.slice none 0 0] 35) = W8 := ⟨_, rfl⟩
 have hn8 : W8.heap.size = w.heap.size + 1 + 1 + 1 + 1 + 1 + 1 + 1 + 1 := by rw [← hW8, World.size_alloc, hn7]
 have hb8 : Below w.heap.size w W8 := hW8 ▸ hb7.alloc hb7.size _
 have b0 : Blk W1 (w.heap.size) 56 [.slice none 0 0] := by rw [← hW1]; exact Blk.new w _ _
 have b0 : Blk W2 (w.heap.size) 56 [.slice none 0 0] := by rw [← hW2]; exact b0.alloc _
 have b0 : Blk W3 (w.heap.size) 56 [.slice none 0 0] := by rw [← hW3]; exact b0.alloc _
 have b0 : Blk W4 (w.heap.size) 56 [.slice none 0 0] := by rw [← hW4]; exact b0.alloc _
 have b0 : Blk W5 (w.heap.size) 56 [.slice none 0 0] := by rw [← hW5]; exact b0.alloc _
 have b0 : Blk W6 (w.heap.size) 56 [.slice none 0 0] := by rw [← hW6]; exact b0.alloc _
 have b0 : Blk W7 (w.heap.size) 56 [.slice none 0 0] := by rw [← hW7]; exact b0.alloc _
 have b0 : Blk W8 (w.heap.size) 56 [.slice none 0 0] := by rw [← hW8]; exact b0.alloc _
 have b1 : Blk W2 (w.heap.size + 1) 39 [.int .u32 7, .string ⟨#[]⟩] := by rw [← hn1, ← hW2]; exact Blk.new W1 _ _
 have b1 : Blk W3 (w.heap.size + 1) 39 [.int .u32 7, .string ⟨#[]⟩] := by rw [← hW3]; exact b1.alloc _
 have b1 : Blk W4 (w.heap.size + 1) 39 [.int .u32 7, .string ⟨#[]⟩] := by rw [← hW4]; exact b1.alloc _
 have b1 : Blk W5 (w.heap.size + 1) 39 [.int .u32 7, .string ⟨#[]⟩] := by rw [← hW5]; exact b1.alloc _
 have b1 : Blk W6 (w.heap.size + 1) 39 [.int .u32 7, .string ⟨#[]⟩] := by rw [← hW6]; exact b1.alloc _
 have b1 : Blk W7 (w.heap.size + 1) 39 [.int .u32 7, .string ⟨#[]⟩] := by rw [← hW7]; exact b1.alloc _
 have b1 : Blk W8 (w.heap.size + 1) 39 [.int .u32 7, .string ⟨#[]⟩] := by rw [← hW8]; exact b1.alloc _
 have b2 : Blk W3 (w.heap.size + 1 + 1) 23 [.int .u32 8] := by rw [← hn2, ← hW3]; exact Blk.new W2 _ _
 have b2 : Blk W4 (w.heap.size + 1 + 1) 23 [.int .u32 8] := by rw [← hW4]; exact b2.alloc _
 have b2 : Blk W5 (w.heap.size + 1 + 1) 23 [.int .u32 8] := by rw [← hW5]; exact b2.alloc _
 have b2 : Blk W6 (w.heap.size + 1 + 1) 23 [.int .u32 8] := by rw [← hW6]; exact b2.alloc _
 have b2 : Blk W7 (w.heap.size + 1 + 1) 23 [.int .u32 8] := by rw [← hW7]; exact b2.alloc _
 have b2 : Blk W8 (w.heap.size + 1 + 1) 23 [.int .u32 8] := by rw [← hW8]; exact b2.alloc _
 have b5 : Blk W6 (w.heap.size + 1 + 1 + 1 + 1 + 1) 59 [.slice none 0 0, .slice none 0 0] := by rw [← hn5, ← hW6]; exact Blk.new W5 _ _
 have b5 : Blk W7 (w.heap.size + 1 + 1 + 1 + 1 + 1) 59 [.slice none 0 0, .slice none 0 0] := by rw [← hW7]; exact b5.alloc _
 have b5 : Blk W8 (w.heap.size + 1 + 1 + 1 + 1 + 1) 59 [.slice none 0 0, .slice none 0 0] := by rw [← hW8]; exact b5.alloc _
 have HN := Lib.hid hn8
 have HB := Lib.hid hb8
 have H0 := Lib.hid b0
 have H1 := Lib.hid b1
 have H2 := Lib.hid b2
 have H5 := Lib.hid b5
 go_enter Tryz.func9, Tryz.ntmps9
 go_upto_region 4 with fail
 clear hb1 hb2 hb3 hb4 hb5 hb6 hb7 hb8 hW1 hW2 hW3 hW4 hW5 hW6 hW7 hW8 hn1 hn2 hn3 hn4 hn5 hn6 hn7 hn8 b0 b1 b2 b5
 have t0 := H1.out.cell (i := 0) rfl
 have u0 := H2.out.cell (i := 0) rfl
 go_wp2_with fail
 refine (when_any W8 false 8).mono ?_
 rintro e3 w3 ⟨rfl, h3⟩
 have hn5 : w3.heap.size = W8.heap.size + 1 + 1 := by rw [h3, World.size_alloc, World.size_alloc]
 have hq1 : Blk w3 W8.heap.size 4 [.bool false] := by rw [h3]; exact (Blk.new W8 _ _).alloc _
 have hq2 : Blk w3 (W8.heap.size + 1) 30 [.int .i64 8] := by
  rw [h3]
  have := Blk.new (W8.alloc (.cells #[.bool false] 4)) 30 [.int .i64 8]
  rw [World.size_alloc] at this
  exact this
 have hb4 : Below W8.heap.size W8 w3 := by rw [h3]; exact ((Below.refl _ W8).alloc (Nat.le_refl _) _).alloc ((Below.refl _ W8).alloc (Nat.le_refl _) _).size _
 clear h3
 have HF : Hid (Blk (w3.alloc (.cells #[.func (.func 31) #[] #[.pointer (some ⟨W8.heap.size, 0, none⟩), .pointer (some ⟨W8.heap.size + 1, 0, none⟩)], .func (.func 22) #[] #[.pointer (some ⟨w.heap.size, 0, none⟩), .pointer (some ⟨w.heap.size + 1, 0, none⟩), .pointer (some ⟨w.heap.size + 1 + 1 + 1 + 1 + 1, 0, none⟩)], .func (.func 24) #[] #[.pointer (some ⟨w.heap.size + 1 + 1 + 1 + 1 + 1, 0, none⟩), .pointer (some ⟨w.heap.size + 1 + 1, 0, none⟩), .pointer (some ⟨w.heap.size + 1 + 1 + 1, 0, none⟩), .pointer (some ⟨w.heap.size + 1 + 1 + 1 + 1 + 1 + 1, 0, none⟩)], .func (.func 26) #[] #[.pointer (some ⟨w.heap.size + 1 + 1 + 1 + 1 + 1 + 1, 0, none⟩), .pointer (some ⟨w.heap.size + 1 + 1 + 1 + 1, 0, none⟩), .pointer (some ⟨w.heap.size + 1 + 1 + 1 + 1 + 1 + 1 + 1, 0, none⟩)]] 51)) (W8.heap.size + 1 + 1) 51 [.func (.func 31) #[] #[.pointer (some ⟨W8.heap.size, 0, none⟩), .pointer (some ⟨W8.heap.size + 1, 0, none⟩)], .func (.func 22) #[] #[.pointer (some ⟨w.heap.size, 0, none⟩), .pointer (some ⟨w.heap.size + 1, 0, none⟩), .pointer (some ⟨w.heap.size + 1 + 1 + 1 + 1 + 1, 0, none⟩)], .func (.func 24) #[] #[.pointer (some ⟨w.heap.size + 1 + 1 + 1 + 1 + 1, 0, none⟩), .pointer (some ⟨w.heap.size + 1 + 1, 0, none⟩), .pointer (some ⟨w.heap.size + 1 + 1 + 1, 0, none⟩), .pointer (some ⟨w.heap.size + 1 + 1 + 1 + 1 + 1 + 1, 0, none⟩)], .func (.func 26) #[] #[.pointer (some ⟨w.heap.size + 1 + 1 + 1 + 1 + 1 + 1, 0, none⟩), .pointer (some ⟨w.heap.size + 1 + 1 + 1 + 1, 0, none⟩), .pointer (some ⟨w.heap.size + 1 + 1 + 1 + 1 + 1 + 1 + 1, 0, none⟩)]]) := Lib.hid (by rw [← hn5]; exact Blk.new w3 _ _)
 have hb5 := (Below.refl _ w3).alloc (Nat.le_refl _) (.cells #[.func (.func 31) #[] #[.pointer (some ⟨W8.heap.size, 0, none⟩), .pointer (some ⟨W8.heap.size + 1, 0, none⟩)], .func (.func 22) #[] #[.pointer (some ⟨w.heap.size, 0, none⟩), .pointer (some ⟨w.heap.size + 1, 0, none⟩), .pointer (some ⟨w.heap.size + 1 + 1 + 1 + 1 + 1, 0, none⟩)], .func (.func 24) #[] #[.pointer (some ⟨w.heap.size + 1 + 1 + 1 + 1 + 1, 0, none⟩), .pointer (some ⟨w.heap.size + 1 + 1, 0, none⟩), .pointer (some ⟨w.heap.size + 1 + 1 + 1, 0, none⟩), .pointer (some ⟨w.heap.size + 1 + 1 + 1 + 1 + 1 + 1, 0, none⟩)], .func (.func 26) #[] #[.pointer (some ⟨w.heap.size + 1 + 1 + 1 + 1 + 1 + 1, 0, none⟩), .pointer (some ⟨w.heap.size + 1 + 1 + 1 + 1, 0, none⟩), .pointer (some ⟨w.heap.size + 1 + 1 + 1 + 1 + 1 + 1 + 1, 0, none⟩)]] 51)
 obtain ⟨Wf, hWf⟩ : ∃ Wf, w3.alloc (.cells #[.func (.func 31) #[] #[.pointer (some ⟨W8.heap.size, 0, none⟩), .pointer (some ⟨W8.heap.size + 1, 0, none⟩)], .func (.func 22) #[] #[.pointer (some ⟨w.heap.size, 0, none⟩), .pointer (some ⟨w.heap.size + 1, 0, none⟩), .pointer (some ⟨w.heap.size + 1 + 1 + 1 + 1 + 1, 0, none⟩)], .func (.func 24) #[] #[.pointer (some ⟨w.heap.size + 1 + 1 + 1 + 1 + 1, 0, none⟩), .pointer (some ⟨w.heap.size + 1 + 1, 0, none⟩), .pointer (some ⟨w.heap.size + 1 + 1 + 1, 0, none⟩), .pointer (some ⟨w.heap.size + 1 + 1 + 1 + 1 + 1 + 1, 0, none⟩)], .func (.func 26) #[] #[.pointer (some ⟨w.heap.size + 1 + 1 + 1 + 1 + 1 + 1, 0, none⟩), .pointer (some ⟨w.heap.size + 1 + 1 + 1 + 1, 0, none⟩), .pointer (some ⟨w.heap.size + 1 + 1 + 1 + 1 + 1 + 1 + 1, 0, none⟩)]] 51) = Wf := ⟨_, rfl⟩
 rw [hWf] at HF hb5
 have hb35 := hb4.trans (hb5.mono hb4.size)
 have HQ1 := Lib.hid (hq1.kept hb5)
 have HQ2 := Lib.hid (hq2.kept hb5)
 have H0 := Lib.hid (H0.out.kept hb35)
 have H1 := Lib.hid (H1.out.kept hb35)
 have H5 := Lib.hid (H5.out.kept hb35)
 have HB5 := Lib.hid (HB.out.trans (hb35.mono HB.out.size))
 clear hq1 hq2 hb4 hb5 hb35 t0 u0
 have HAll : Hid (Calls Tryz.prog 13 #[.slice (some ⟨W8.heap.size + 1 + 1, 0, none⟩) 4 4] Wf fun r w' => r = .returned (.int .i64 9) ∧ Below w.heap.size w w') := Lib.hid (by
  have hS : Steps (W8.heap.size + 1 + 1) [(31, #[.pointer (some ⟨W8.heap.size, 0, none⟩), .pointer (some ⟨W8.heap.size + 1, 0, none⟩)], 0), (22, #[.pointer (some ⟨w.heap.size, 0, none⟩), .pointer (some ⟨w.heap.size + 1, 0, none⟩), .pointer (some ⟨w.heap.size + 1 + 1 + 1 + 1 + 1, 0, none⟩)], 9), (24, #[.pointer (some ⟨w.heap.size + 1 + 1 + 1 + 1 + 1, 0, none⟩), .pointer (some ⟨w.heap.size + 1 + 1, 0, none⟩), .pointer (some ⟨w.heap.size + 1 + 1 + 1, 0, none⟩), .pointer (some ⟨w.heap.size + 1 + 1 + 1 + 1 + 1 + 1, 0, none⟩)], 0), (26, #[.pointer (some ⟨w.heap.size + 1 + 1 + 1 + 1 + 1 + 1, 0, none⟩), .pointer (some ⟨w.heap.size + 1 + 1 + 1 + 1, 0, none⟩), .pointer (some ⟨w.heap.size + 1 + 1 + 1 + 1 + 1 + 1 + 1, 0, none⟩)], 0)] (fun i W => i ≤ 1 ∧ Below Wf.heap.size Wf W) (fun _ W => Below w.heap.size w W) := by
   refine ⟨fun i f W hf hW => ?_, fun f hf => ?_, fun i f W hf hW => ?_, fun W hW => absurd hW.1 (show ¬ (4 : Nat) ≤ 1 by decide)⟩
   ·match i, hf, hW with
    | 0, hf, hW => cases hf; exact (HF.out.kept hW.2).cell (i := 0) rfl
    | 1, hf, hW => cases hf; exact (HF.out.kept hW.2).cell (i := 1) rfl
    | k + 2, _, hW => exact absurd hW.1 (by omega)
   ·simp only [List.mem_cons, List.not_mem_nil, or_false] at hf
    rcases hf with rfl | rfl | rfl | rfl
    ·exact enters_of Tryz.func31 (by kernel_rfl) rfl
    ·exact enters_of Tryz.func22 (by kernel_rfl) rfl
    ·exact enters_of Tryz.func24 (by kernel_rfl) rfl
    ·exact enters_of Tryz.func26 (by kernel_rfl) rfl
   ·match i, hf, hW with
    | 0, hf, hW =>
     cases hf
     refine (when1_any W _ _ false 8 (HQ1.out.kept hW.2) (HQ2.out.kept hW.2)).mono ?_
     rintro r w' ⟨rfl, rfl⟩
     exact ⟨rfl, fun _ => ⟨Nat.le_refl _, hW.2⟩, fun h => absurd rfl h⟩
    | 1, hf, hW =>
     cases hf
     refine (copy1N w W _ _ _ (H0.out.kept hW.2) (H1.out.kept hW.2) (H5.out.kept hW.2) (HB5.out.trans (hW.2.mono HB5.out.size)) (by omega)).mono ?_
     rintro r w' ⟨rfl, hb⟩
     exact ⟨rfl, fun h => absurd h (show ¬ (9 : Int) = 0 by decide), fun _ => hb⟩
    | k + 2, _, hW => exact absurd hW.1 (by omega)
  exact all_any Wf (W8.heap.size + 1 + 1) _ 4 (Nat.le_refl _) (by omega) _ _ hS ⟨Nat.zero_le _, Below.refl _ _⟩)
 clear HF HQ1 HQ2
 go_wp2_with fail
 refine HAll.out.mono ?_
 rintro e6 w6 ⟨rfl, hb6⟩
 have HB6 := Lib.hid hb6
 clear hb6
 go_wp2_with fail
 go_ret2
 exact ⟨rfl, HB6.out⟩
theorem verifyN (w : World) : Calls Tryz.prog 10 #[.slice none 0 0, .slice none 0 0, .agg #[.int .u32 7, .string ⟨#[]⟩], .agg #[.int .u32 8, .string ⟨#[]⟩]] w fun r w' => r = .returned (.int .i64 0) ∧ Below w.heap.size w w' := by
 have hb1 := (Below.refl w.heap.size w).alloc (Nat.le_refl _) (.cells #[.int .u32 7, .string ⟨#[]⟩] 39)
 have HB := Lib.hid (hb1.alloc hb1.size (.cells #[.int .u32 8, .string ⟨#[]⟩] 39))
 have hK := (Blk.new w 39 [.int .u32 7, .string ⟨#[]⟩]).alloc (.cells #[.int .u32 8, .string ⟨#[]⟩] 39)
 change Blk ((w.alloc (.cells #[.int .u32 7, .string ⟨#[]⟩] 39)).alloc (.cells #[.int .u32 8, .string ⟨#[]⟩] 39)) _ _ _ at hK
 have hL := Blk.new (w.alloc (.cells #[.int .u32 7, .string ⟨#[]⟩] 39)) 39 [.int .u32 8, .string ⟨#[]⟩]
 change Blk ((w.alloc (.cells #[.int .u32 7, .string ⟨#[]⟩] 39)).alloc (.cells #[.int .u32 8, .string ⟨#[]⟩] 39)) _ _ _ at hL
 rw [World.size_alloc] at hL
 have HK := Lib.hid hK
 have HL := Lib.hid hL
 have HRd2 := Lib.hid (fun W => readN W 7 ⟨#[]⟩)
 have HRd5 := Lib.hid (fun W => readN W 8 ⟨#[]⟩)
 have HLo := Lib.hid (fun W => lostN W)
 have HRs := Lib.hid (fun W => resultsN W)
 clear hb1 hK hL
 go_enter Tryz.func10, Tryz.ntmps10
 go_upto_region 1 with fail
 generalize (w.alloc (.cells #[.int .u32 7, .string ⟨#[]⟩] 39)).alloc (.cells #[.int .u32 8, .string ⟨#[]⟩] 39) = wa at *
 have HKS : Hid (∀ W, Below wa.heap.size wa W → W.cell? ⟨w.heap.size, 0, none⟩ = some (.int .u32 7) ∧ W.cell? ⟨w.heap.size, 1, none⟩ = some (.string ⟨#[]⟩) ∧ W.cell? ⟨w.heap.size + 1, 0, none⟩ = some (.int .u32 8) ∧ W.cell? ⟨w.heap.size + 1, 1, none⟩ = some (.string ⟨#[]⟩)) := Lib.hid (fun W hW => ⟨(HK.out.kept hW).cell (i := 0) rfl, (HK.out.kept hW).cell (i := 1) rfl, (HL.out.kept hW).cell (i := 0) rfl, (HL.out.kept hW).cell (i := 1) rfl⟩)
 have HBc := Lib.hid (Below.refl wa.heap.size wa).drew
 go_cut [9, 10] (fun p q wx => ∃ g h : Nat, p = .pointer (some ⟨g, 0, none⟩) ∧ q = .pointer (some ⟨h, 0, none⟩) ∧ Blk wx g 59 [.slice none 0 0, .slice none 0 0] ∧ Blk wx h 59 [.slice none 0 0, .slice none 0 0] ∧ Below wa.heap.size wa wx)
 case first =>
  refine wp_region_held_drew (S := (fun W => W.cell? ⟨w.heap.size, 0, none⟩ = some (.int .u32 7) ∧ W.cell? ⟨w.heap.size, 1, none⟩ = some (.string ⟨#[]⟩) ∧ W.cell? ⟨w.heap.size + 1, 0, none⟩ = some (.int .u32 8) ∧ W.cell? ⟨w.heap.size + 1, 1, none⟩ = some (.string ⟨#[]⟩))) (by kernel_rfl) ?_ (fun hHeld => ?_)
  ·exact HKS.out _ HBc.out
  generalize wa.drew = wd at *
  refine tk 0 ?_
  refine tk 1 ?_
  refine tk 3 ?_
  refine tk 4 ?_
  refine wpAnyH_ready (rs := [2, 6, 7]) (by kernel_rfl) (by simp) ?_
  refine AllReadyH.cons (o := _) rfl (fun K hK => ?_) ?_
  ·go_simp
   refine (HRd2.out _).mono ?_
   rintro e2 r2 ⟨rfl, hb2⟩
   (try go_wp2_with fail)
   have HBc := Lib.hid (HBc.out.trans (hb2.mono HBc.out.size))
   clear hb2
   refine hko hK (by exact HKS.out _ HBc.out) (fun _ => ?_)
   clear hK K
   refine wpAnyH_ready (rs := [5, 6, 7]) (by kernel_rfl) (by simp) ?_
   refine AllReadyH.cons (o := _) rfl (fun K hK => ?_) ?_
   ·go_simp
    refine (HRd5.out _).mono ?_
    rintro e5 r5 ⟨rfl, hb5⟩
    (try go_wp2_with fail)
    have HBc := Lib.hid (HBc.out.trans (hb5.mono HBc.out.size))
    clear hb5
    refine hko hK (by exact HKS.out _ HBc.out) (fun _ => ?_)
    clear hK K
    refine wpAnyH_ready (rs := [6, 7]) (by kernel_rfl) (by simp) ?_
    refine AllReadyH.cons (o := _) rfl (fun K hK => ?_) ?_
    ·go_simp
     have hG := Blk.new r5 59 [.slice none 0 0, .slice none 0 0]
     change Blk (r5.alloc (.cells #[.slice none 0 0, .slice none 0 0] 59)) _ _ _ at hG
     have hal := (Below.refl r5.heap.size r5).alloc (Nat.le_refl _) (.cells #[.slice none 0 0, .slice none 0 0] 59)
     have HGe6 := Lib.hid (show wa.heap.size ≤ r5.heap.size from HBc.out.size)
     have HG6 := Lib.hid hG
     have HBc := Lib.hid (HBc.out.trans (hal.mono HBc.out.size))
     clear hal hG
     generalize r5.alloc (.cells #[.slice none 0 0, .slice none 0 0] 59) = s6 at *
     refine hko hK (by exact HKS.out _ HBc.out) (fun _ => ?_)
     clear hK K
     refine wpAnyH_ready (rs := [7]) (by kernel_rfl) (by simp) ?_
     refine AllReadyH.cons (o := _) rfl (fun K hK => ?_) ?_
     ·go_simp
      have hG := Blk.new s6 59 [.slice none 0 0, .slice none 0 0]
      change Blk (s6.alloc (.cells #[.slice none 0 0, .slice none 0 0] 59)) _ _ _ at hG
      have hal := (Below.refl s6.heap.size s6).alloc (Nat.le_refl _) (.cells #[.slice none 0 0, .slice none 0 0] 59)
      have HGe7 := Lib.hid (show wa.heap.size ≤ s6.heap.size from HBc.out.size)
      have HNe := Lib.hid (show r5.heap.size ≠ s6.heap.size by have := HG6.out.lt; omega)
      have HG6 := Lib.hid (HG6.out.kept hal)
      have HG7 := Lib.hid hG
      have HBc := Lib.hid (HBc.out.trans (hal.mono HBc.out.size))
      clear hal hG
      generalize s6.alloc (.cells #[.slice none 0 0, .slice none 0 0] 59) = s7 at *
      refine hko hK (by exact HKS.out _ HBc.out) (fun _ => ?_)
      clear hK K
      refine wpAnyH_ready (rs := [8]) (by kernel_rfl) (by simp) ?_
      refine AllReadyH.cons (o := _) rfl (fun K hK => ?_) ?_
      ·refine wp_store_row 59 (.tmp 9) (.tmp 13) rfl _ _ rfl rfl 59 _ HG6.out (by kernel_rfl) rfl (by simp [Value.oneCell']) ?_
       have hG : Blk (s7.setRow r5.heap.size #[.slice none 0 0, .slice none 0 0]) r5.heap.size 59 [.slice none 0 0, .slice none 0 0] := setRow_heap _ _ _ _ _ _ HG6.out
       have HG7 := Lib.hid (HG7.out.setRowN (Ne.symm HNe.out) #[.slice none 0 0, .slice none 0 0])
       have HG6 := Lib.hid hG
       have HBc := Lib.hid (below_setRow HBc.out HGe6.out #[.slice none 0 0, .slice none 0 0])
       clear hG
       generalize s7.setRow r5.heap.size #[.slice none 0 0, .slice none 0 0] = z8 at *
       refine hko hK (by exact HKS.out _ HBc.out) (fun _ => ?_)
       clear hK K
       refine wpAnyH_ready (rs := [9]) (by kernel_rfl) (by simp) ?_
       refine AllReadyH.cons (o := _) rfl (fun K hK => ?_) ?_
       ·refine wp_store_row 59 (.tmp 10) (.tmp 16) rfl _ _ rfl rfl 59 _ HG7.out (by kernel_rfl) rfl (by simp [Value.oneCell']) ?_
        have hG : Blk (z8.setRow s6.heap.size #[.slice none 0 0, .slice none 0 0]) s6.heap.size 59 [.slice none 0 0, .slice none 0 0] := setRow_heap _ _ _ _ _ _ HG7.out
        have HG6 := Lib.hid (HG6.out.setRowN HNe.out #[.slice none 0 0, .slice none 0 0])
        have HG7 := Lib.hid hG
        have HBc := Lib.hid (below_setRow HBc.out HGe7.out #[.slice none 0 0, .slice none 0 0])
        clear hG
        generalize z8.setRow s6.heap.size #[.slice none 0 0, .slice none 0 0] = z9 at *
        refine hko hK (by exact HKS.out _ HBc.out) (fun _ => ?_)
        clear hK K
        refine wpAnyH_done (by kernel_rfl) ?_ _
        go_wp2_with fail
        go_meet
        exact ⟨_, _, rfl, rfl, HG6.out, HG7.out, HBc.out⟩
       exact AllReadyH.nil
      exact AllReadyH.nil
     exact AllReadyH.nil
    refine AllReadyH.cons (o := _) rfl (fun K hK => ?_) ?_
    ·go_simp
     have hG := Blk.new r5 59 [.slice none 0 0, .slice none 0 0]
     change Blk (r5.alloc (.cells #[.slice none 0 0, .slice none 0 0] 59)) _ _ _ at hG
     have hal := (Below.refl r5.heap.size r5).alloc (Nat.le_refl _) (.cells #[.slice none 0 0, .slice none 0 0] 59)
     have HGe7 := Lib.hid (show wa.heap.size ≤ r5.heap.size from HBc.out.size)
     have HG7 := Lib.hid hG
     have HBc := Lib.hid (HBc.out.trans (hal.mono HBc.out.size))
     clear hal hG
     generalize r5.alloc (.cells #[.slice none 0 0, .slice none 0 0] 59) = s7 at *
     refine hko hK (by exact HKS.out _ HBc.out) (fun _ => ?_)
     clear hK K
     refine wpAnyH_ready (rs := [6]) (by kernel_rfl) (by simp) ?_
     refine AllReadyH.cons (o := _) rfl (fun K hK => ?_) ?_
     ·go_simp
      have hG := Blk.new s7 59 [.slice none 0 0, .slice none 0 0]
      change Blk (s7.alloc (.cells #[.slice none 0 0, .slice none 0 0] 59)) _ _ _ at hG
      have hal := (Below.refl s7.heap.size s7).alloc (Nat.le_refl _) (.cells #[.slice none 0 0, .slice none 0 0] 59)
      have HGe6 := Lib.hid (show wa.heap.size ≤ s7.heap.size from HBc.out.size)
      have HNe := Lib.hid (show r5.heap.size ≠ s7.heap.size by have := HG7.out.lt; omega)
      have HG7 := Lib.hid (HG7.out.kept hal)
      have HG6 := Lib.hid hG
      have HBc := Lib.hid (HBc.out.trans (hal.mono HBc.out.size))
      clear hal hG
      generalize s7.alloc (.cells #[.slice none 0 0, .slice none 0 0] 59) = s6 at *
      refine hko hK (by exact HKS.out _ HBc.out) (fun _ => ?_)
      clear hK K
      refine wpAnyH_ready (rs := [8]) (by kernel_rfl) (by simp) ?_
      refine AllReadyH.cons (o := _) rfl (fun K hK => ?_) ?_
      ·refine wp_store_row 59 (.tmp 9) (.tmp 13) rfl _ _ rfl rfl 59 _ HG6.out (by kernel_rfl) rfl (by simp [Value.oneCell']) ?_
       have hG : Blk (s6.setRow s7.heap.size #[.slice none 0 0, .slice none 0 0]) s7.heap.size 59 [.slice none 0 0, .slice none 0 0] := setRow_heap _ _ _ _ _ _ HG6.out
       have HG7 := Lib.hid (HG7.out.setRowN HNe.out #[.slice none 0 0, .slice none 0 0])
       have HG6 := Lib.hid hG
       have HBc := Lib.hid (below_setRow HBc.out HGe6.out #[.slice none 0 0, .slice none 0 0])
       clear hG
       generalize s6.setRow s7.heap.size #[.slice none 0 0, .slice none 0 0] = z8 at *
       refine hko hK (by exact HKS.out _ HBc.out) (fun _ => ?_)
       clear hK K
       refine wpAnyH_ready (rs := [9]) (by kernel_rfl) (by simp) ?_
       refine AllReadyH.cons (o := _) rfl (fun K hK => ?_) ?_
       ·refine wp_store_row 59 (.tmp 10) (.tmp 16) rfl _ _ rfl rfl 59 _ HG7.out (by kernel_rfl) rfl (by simp [Value.oneCell']) ?_
        have hG : Blk (z8.setRow r5.heap.size #[.slice none 0 0, .slice none 0 0]) r5.heap.size 59 [.slice none 0 0, .slice none 0 0] := setRow_heap _ _ _ _ _ _ HG7.out
        have HG6 := Lib.hid (HG6.out.setRowN (Ne.symm HNe.out) #[.slice none 0 0, .slice none 0 0])
        have HG7 := Lib.hid hG
        have HBc := Lib.hid (below_setRow HBc.out HGe7.out #[.slice none 0 0, .slice none 0 0])
        clear hG
        generalize z8.setRow r5.heap.size #[.slice none 0 0, .slice none 0 0] = z9 at *
        refine hko hK (by exact HKS.out _ HBc.out) (fun _ => ?_)
        clear hK K
        refine wpAnyH_done (by kernel_rfl) ?_ _
        go_wp2_with fail
        go_meet
        exact ⟨_, _, rfl, rfl, HG6.out, HG7.out, HBc.out⟩
       exact AllReadyH.nil
      exact AllReadyH.nil
     exact AllReadyH.nil
    exact AllReadyH.nil
   refine AllReadyH.cons (o := _) rfl (fun K hK => ?_) ?_
   ·go_simp
    have hG := Blk.new r2 59 [.slice none 0 0, .slice none 0 0]
    change Blk (r2.alloc (.cells #[.slice none 0 0, .slice none 0 0] 59)) _ _ _ at hG
    have hal := (Below.refl r2.heap.size r2).alloc (Nat.le_refl _) (.cells #[.slice none 0 0, .slice none 0 0] 59)
    have HGe6 := Lib.hid (show wa.heap.size ≤ r2.heap.size from HBc.out.size)
    have HG6 := Lib.hid hG
    have HBc := Lib.hid (HBc.out.trans (hal.mono HBc.out.size))
    clear hal hG
    generalize r2.alloc (.cells #[.slice none 0 0, .slice none 0 0] 59) = s6 at *
    refine hko hK (by exact HKS.out _ HBc.out) (fun _ => ?_)
    clear hK K
    refine wpAnyH_ready (rs := [5, 7]) (by kernel_rfl) (by simp) ?_
    refine AllReadyH.cons (o := _) rfl (fun K hK => ?_) ?_
    ·go_simp
     refine (HRd5.out _).mono ?_
     rintro e5 r5 ⟨rfl, hb5⟩
     (try go_wp2_with fail)
     have HG6 := Lib.hid (HG6.out.kept hb5)
     have HBc := Lib.hid (HBc.out.trans (hb5.mono HBc.out.size))
     clear hb5
     refine hko hK (by exact HKS.out _ HBc.out) (fun _ => ?_)
     clear hK K
     refine wpAnyH_ready (rs := [7]) (by kernel_rfl) (by simp) ?_
     refine AllReadyH.cons (o := _) rfl (fun K hK => ?_) ?_
     ·go_simp
      have hG := Blk.new r5 59 [.slice none 0 0, .slice none 0 0]
      change Blk (r5.alloc (.cells #[.slice none 0 0, .slice none 0 0] 59)) _ _ _ at hG
      have hal := (Below.refl r5.heap.size r5).alloc (Nat.le_refl _) (.cells #[.slice none 0 0, .slice none 0 0] 59)
      have HGe7 := Lib.hid (show wa.heap.size ≤ r5.heap.size from HBc.out.size)
      have HNe := Lib.hid (show r2.heap.size ≠ r5.heap.size by have := HG6.out.lt; omega)
      have HG6 := Lib.hid (HG6.out.kept hal)
      have HG7 := Lib.hid hG
      have HBc := Lib.hid (HBc.out.trans (hal.mono HBc.out.size))
      clear hal hG
      generalize r5.alloc (.cells #[.slice none 0 0, .slice none 0 0] 59) = s7 at *
      refine hko hK (by exact HKS.out _ HBc.out) (fun _ => ?_)
      clear hK K
      refine wpAnyH_ready (rs := [8]) (by kernel_rfl) (by simp) ?_
      refine AllReadyH.cons (o := _) rfl (fun K hK => ?_) ?_
      ·refine wp_store_row 59 (.tmp 9) (.tmp 13) rfl _ _ rfl rfl 59 _ HG6.out (by kernel_rfl) rfl (by simp [Value.oneCell']) ?_
       have hG : Blk (s7.setRow r2.heap.size #[.slice none 0 0, .slice none 0 0]) r2.heap.size 59 [.slice none 0 0, .slice none 0 0] := setRow_heap _ _ _ _ _ _ HG6.out
       have HG7 := Lib.hid (HG7.out.setRowN (Ne.symm HNe.out) #[.slice none 0 0, .slice none 0 0])
       have HG6 := Lib.hid hG
       have HBc := Lib.hid (below_setRow HBc.out HGe6.out #[.slice none 0 0, .slice none 0 0])
       clear hG
       generalize s7.setRow r2.heap.size #[.slice none 0 0, .slice none 0 0] = z8 at *
       refine hko hK (by exact HKS.out _ HBc.out) (fun _ => ?_)
       clear hK K
       refine wpAnyH_ready (rs := [9]) (by kernel_rfl) (by simp) ?_
       refine AllReadyH.cons (o := _) rfl (fun K hK => ?_) ?_
       ·refine wp_store_row 59 (.tmp 10) (.tmp 16) rfl _ _ rfl rfl 59 _ HG7.out (by kernel_rfl) rfl (by simp [Value.oneCell']) ?_
        have hG : Blk (z8.setRow r5.heap.size #[.slice none 0 0, .slice none 0 0]) r5.heap.size 59 [.slice none 0 0, .slice none 0 0] := setRow_heap _ _ _ _ _ _ HG7.out
        have HG6 := Lib.hid (HG6.out.setRowN HNe.out #[.slice none 0 0, .slice none 0 0])
        have HG7 := Lib.hid hG
        have HBc := Lib.hid (below_setRow HBc.out HGe7.out #[.slice none 0 0, .slice none 0 0])
        clear hG
        generalize z8.setRow r5.heap.size #[.slice none 0 0, .slice none 0 0] = z9 at *
        refine hko hK (by exact HKS.out _ HBc.out) (fun _ => ?_)
        clear hK K
        refine wpAnyH_done (by kernel_rfl) ?_ _
        go_wp2_with fail
        go_meet
        exact ⟨_, _, rfl, rfl, HG6.out, HG7.out, HBc.out⟩
       exact AllReadyH.nil
      exact AllReadyH.nil
     exact AllReadyH.nil
    refine AllReadyH.cons (o := _) rfl (fun K hK => ?_) ?_
    ·go_simp
     have hG := Blk.new s6 59 [.slice none 0 0, .slice none 0 0]
     change Blk (s6.alloc (.cells #[.slice none 0 0, .slice none 0 0] 59)) _ _ _ at hG
     have hal := (Below.refl s6.heap.size s6).alloc (Nat.le_refl _) (.cells #[.slice none 0 0, .slice none 0 0] 59)
     have HGe7 := Lib.hid (show wa.heap.size ≤ s6.heap.size from HBc.out.size)
     have HNe := Lib.hid (show r2.heap.size ≠ s6.heap.size by have := HG6.out.lt; omega)
     have HG6 := Lib.hid (HG6.out.kept hal)
     have HG7 := Lib.hid hG
     have HBc := Lib.hid (HBc.out.trans (hal.mono HBc.out.size))
     clear hal hG
     generalize s6.alloc (.cells #[.slice none 0 0, .slice none 0 0] 59) = s7 at *
     refine hko hK (by exact HKS.out _ HBc.out) (fun _ => ?_)
     clear hK K
     refine wpAnyH_ready (rs := [5]) (by kernel_rfl) (by simp) ?_
     refine AllReadyH.cons (o := _) rfl (fun K hK => ?_) ?_
     ·go_simp
      refine (HRd5.out _).mono ?_
      rintro e5 r5 ⟨rfl, hb5⟩
      (try go_wp2_with fail)
      have HG6 := Lib.hid (HG6.out.kept hb5)
      have HG7 := Lib.hid (HG7.out.kept hb5)
      have HBc := Lib.hid (HBc.out.trans (hb5.mono HBc.out.size))
      clear hb5
      refine hko hK (by exact HKS.out _ HBc.out) (fun _ => ?_)
      clear hK K
      refine wpAnyH_ready (rs := [8]) (by kernel_rfl) (by simp) ?_
      refine AllReadyH.cons (o := _) rfl (fun K hK => ?_) ?_
      ·refine wp_store_row 59 (.tmp 9) (.tmp 13) rfl _ _ rfl rfl 59 _ HG6.out (by kernel_rfl) rfl (by simp [Value.oneCell']) ?_
       have hG : Blk (r5.setRow r2.heap.size #[.slice none 0 0, .slice none 0 0]) r2.heap.size 59 [.slice none 0 0, .slice none 0 0] := setRow_heap _ _ _ _ _ _ HG6.out
       have HG7 := Lib.hid (HG7.out.setRowN (Ne.symm HNe.out) #[.slice none 0 0, .slice none 0 0])
       have HG6 := Lib.hid hG
       have HBc := Lib.hid (below_setRow HBc.out HGe6.out #[.slice none 0 0, .slice none 0 0])
       clear hG
       generalize r5.setRow r2.heap.size #[.slice none 0 0, .slice none 0 0] = z8 at *
       refine hko hK (by exact HKS.out _ HBc.out) (fun _ => ?_)
       clear hK K
       refine wpAnyH_ready (rs := [9]) (by kernel_rfl) (by simp) ?_
       refine AllReadyH.cons (o := _) rfl (fun K hK => ?_) ?_
       ·refine wp_store_row 59 (.tmp 10) (.tmp 16) rfl _ _ rfl rfl 59 _ HG7.out (by kernel_rfl) rfl (by simp [Value.oneCell']) ?_
        have hG : Blk (z8.setRow s6.heap.size #[.slice none 0 0, .slice none 0 0]) s6.heap.size 59 [.slice none 0 0, .slice none 0 0] := setRow_heap _ _ _ _ _ _ HG7.out
        have HG6 := Lib.hid (HG6.out.setRowN HNe.out #[.slice none 0 0, .slice none 0 0])
        have HG7 := Lib.hid hG
        have HBc := Lib.hid (below_setRow HBc.out HGe7.out #[.slice none 0 0, .slice none 0 0])
        clear hG
        generalize z8.setRow s6.heap.size #[.slice none 0 0, .slice none 0 0] = z9 at *
        refine hko hK (by exact HKS.out _ HBc.out) (fun _ => ?_)
        clear hK K
        refine wpAnyH_done (by kernel_rfl) ?_ _
        go_wp2_with fail
        go_meet
        exact ⟨_, _, rfl, rfl, HG6.out, HG7.out, HBc.out⟩
       exact AllReadyH.nil
      exact AllReadyH.nil
     exact AllReadyH.nil
    exact AllReadyH.nil
   refine AllReadyH.cons (o := _) rfl (fun K hK => ?_) ?_
   ·go_simp
    have hG := Blk.new r2 59 [.slice none 0 0, .slice none 0 0]
    change Blk (r2.alloc (.cells #[.slice none 0 0, .slice none 0 0] 59)) _ _ _ at hG
    have hal := (Below.refl r2.heap.size r2).alloc (Nat.le_refl _) (.cells #[.slice none 0 0, .slice none 0 0] 59)
    have HGe7 := Lib.hid (show wa.heap.size ≤ r2.heap.size from HBc.out.size)
    have HG7 := Lib.hid hG
    have HBc := Lib.hid (HBc.out.trans (hal.mono HBc.out.size))
    clear hal hG
    generalize r2.alloc (.cells #[.slice none 0 0, .slice none 0 0] 59) = s7 at *
    refine hko hK (by exact HKS.out _ HBc.out) (fun _ => ?_)
    clear hK K
    refine wpAnyH_ready (rs := [5, 6]) (by kernel_rfl) (by simp) ?_
    refine AllReadyH.cons (o := _) rfl (fun K hK => ?_) ?_
    ·go_simp
     refine (HRd5.out _).mono ?_
     rintro e5 r5 ⟨rfl, hb5⟩
     (try go_wp2_with fail)
     have HG7 := Lib.hid (HG7.out.kept hb5)
     have HBc := Lib.hid (HBc.out.trans (hb5.mono HBc.out.size))
     clear hb5
     refine hko hK (by exact HKS.out _ HBc.out) (fun _ => ?_)
     clear hK K
     refine wpAnyH_ready (rs := [6]) (by kernel_rfl) (by simp) ?_
     refine AllReadyH.cons (o := _) rfl (fun K hK => ?_) ?_
     ·go_simp
      have hG := Blk.new r5 59 [.slice none 0 0, .slice none 0 0]
      change Blk (r5.alloc (.cells #[.slice none 0 0, .slice none 0 0] 59)) _ _ _ at hG
      have hal := (Below.refl r5.heap.size r5).alloc (Nat.le_refl _) (.cells #[.slice none 0 0, .slice none 0 0] 59)
      have HGe6 := Lib.hid (show wa.heap.size ≤ r5.heap.size from HBc.out.size)
      have HNe := Lib.hid (show r2.heap.size ≠ r5.heap.size by have := HG7.out.lt; omega)
      have HG7 := Lib.hid (HG7.out.kept hal)
      have HG6 := Lib.hid hG
      have HBc := Lib.hid (HBc.out.trans (hal.mono HBc.out.size))
      clear hal hG
      generalize r5.alloc (.cells #[.slice none 0 0, .slice none 0 0] 59) = s6 at *
      refine hko hK (by exact HKS.out _ HBc.out) (fun _ => ?_)
      clear hK K
      refine wpAnyH_ready (rs := [8]) (by kernel_rfl) (by simp) ?_
      refine AllReadyH.cons (o := _) rfl (fun K hK => ?_) ?_
      ·refine wp_store_row 59 (.tmp 9) (.tmp 13) rfl _ _ rfl rfl 59 _ HG6.out (by kernel_rfl) rfl (by simp [Value.oneCell']) ?_
       have hG : Blk (s6.setRow r5.heap.size #[.slice none 0 0, .slice none 0 0]) r5.heap.size 59 [.slice none 0 0, .slice none 0 0] := setRow_heap _ _ _ _ _ _ HG6.out
       have HG7 := Lib.hid (HG7.out.setRowN HNe.out #[.slice none 0 0, .slice none 0 0])
       have HG6 := Lib.hid hG
       have HBc := Lib.hid (below_setRow HBc.out HGe6.out #[.slice none 0 0, .slice none 0 0])
       clear hG
       generalize s6.setRow r5.heap.size #[.slice none 0 0, .slice none 0 0] = z8 at *
       refine hko hK (by exact HKS.out _ HBc.out) (fun _ => ?_)
       clear hK K
       refine wpAnyH_ready (rs := [9]) (by kernel_rfl) (by simp) ?_
       refine AllReadyH.cons (o := _) rfl (fun K hK => ?_) ?_
       ·refine wp_store_row 59 (.tmp 10) (.tmp 16) rfl _ _ rfl rfl 59 _ HG7.out (by kernel_rfl) rfl (by simp [Value.oneCell']) ?_
        have hG : Blk (z8.setRow r2.heap.size #[.slice none 0 0, .slice none 0 0]) r2.heap.size 59 [.slice none 0 0, .slice none 0 0] := setRow_heap _ _ _ _ _ _ HG7.out
        have HG6 := Lib.hid (HG6.out.setRowN (Ne.symm HNe.out) #[.slice none 0 0, .slice none 0 0])
        have HG7 := Lib.hid hG
        have HBc := Lib.hid (below_setRow HBc.out HGe7.out #[.slice none 0 0, .slice none 0 0])
        clear hG
        generalize z8.setRow r2.heap.size #[.slice none 0 0, .slice none 0 0] = z9 at *
        refine hko hK (by exact HKS.out _ HBc.out) (fun _ => ?_)
        clear hK K
        refine wpAnyH_done (by kernel_rfl) ?_ _
        go_wp2_with fail
        go_meet
        exact ⟨_, _, rfl, rfl, HG6.out, HG7.out, HBc.out⟩
       exact AllReadyH.nil
      exact AllReadyH.nil
     exact AllReadyH.nil
    refine AllReadyH.cons (o := _) rfl (fun K hK => ?_) ?_
    ·go_simp
     have hG := Blk.new s7 59 [.slice none 0 0, .slice none 0 0]
     change Blk (s7.alloc (.cells #[.slice none 0 0, .slice none 0 0] 59)) _ _ _ at hG
     have hal := (Below.refl s7.heap.size s7).alloc (Nat.le_refl _) (.cells #[.slice none 0 0, .slice none 0 0] 59)
     have HGe6 := Lib.hid (show wa.heap.size ≤ s7.heap.size from HBc.out.size)
     have HNe := Lib.hid (show r2.heap.size ≠ s7.heap.size by have := HG7.out.lt; omega)
     have HG7 := Lib.hid (HG7.out.kept hal)
     have HG6 := Lib.hid hG
     have HBc := Lib.hid (HBc.out.trans (hal.mono HBc.out.size))
     clear hal hG
     generalize s7.alloc (.cells #[.slice none 0 0, .slice none 0 0] 59) = s6 at *
     refine hko hK (by exact HKS.out _ HBc.out) (fun _ => ?_)
     clear hK K
     refine wpAnyH_ready (rs := [5]) (by kernel_rfl) (by simp) ?_
     refine AllReadyH.cons (o := _) rfl (fun K hK => ?_) ?_
     ·go_simp
      refine (HRd5.out _).mono ?_
      rintro e5 r5 ⟨rfl, hb5⟩
      (try go_wp2_with fail)
      have HG6 := Lib.hid (HG6.out.kept hb5)
      have HG7 := Lib.hid (HG7.out.kept hb5)
      have HBc := Lib.hid (HBc.out.trans (hb5.mono HBc.out.size))
      clear hb5
      refine hko hK (by exact HKS.out _ HBc.out) (fun _ => ?_)
      clear hK K
      refine wpAnyH_ready (rs := [8]) (by kernel_rfl) (by simp) ?_
      refine AllReadyH.cons (o := _) rfl (fun K hK => ?_) ?_
      ·refine wp_store_row 59 (.tmp 9) (.tmp 13) rfl _ _ rfl rfl 59 _ HG6.out (by kernel_rfl) rfl (by simp [Value.oneCell']) ?_
       have hG : Blk (r5.setRow s7.heap.size #[.slice none 0 0, .slice none 0 0]) s7.heap.size 59 [.slice none 0 0, .slice none 0 0] := setRow_heap _ _ _ _ _ _ HG6.out
       have HG7 := Lib.hid (HG7.out.setRowN HNe.out #[.slice none 0 0, .slice none 0 0])
       have HG6 := Lib.hid hG
       have HBc := Lib.hid (below_setRow HBc.out HGe6.out #[.slice none 0 0, .slice none 0 0])
       clear hG
       generalize r5.setRow s7.heap.size #[.slice none 0 0, .slice none 0 0] = z8 at *
       refine hko hK (by exact HKS.out _ HBc.out) (fun _ => ?_)
       clear hK K
       refine wpAnyH_ready (rs := [9]) (by kernel_rfl) (by simp) ?_
       refine AllReadyH.cons (o := _) rfl (fun K hK => ?_) ?_
       ·refine wp_store_row 59 (.tmp 10) (.tmp 16) rfl _ _ rfl rfl 59 _ HG7.out (by kernel_rfl) rfl (by simp [Value.oneCell']) ?_
        have hG : Blk (z8.setRow r2.heap.size #[.slice none 0 0, .slice none 0 0]) r2.heap.size 59 [.slice none 0 0, .slice none 0 0] := setRow_heap _ _ _ _ _ _ HG7.out
        have HG6 := Lib.hid (HG6.out.setRowN (Ne.symm HNe.out) #[.slice none 0 0, .slice none 0 0])
        have HG7 := Lib.hid hG
        have HBc := Lib.hid (below_setRow HBc.out HGe7.out #[.slice none 0 0, .slice none 0 0])
        clear hG
        generalize z8.setRow r2.heap.size #[.slice none 0 0, .slice none 0 0] = z9 at *
        refine hko hK (by exact HKS.out _ HBc.out) (fun _ => ?_)
        clear hK K
        refine wpAnyH_done (by kernel_rfl) ?_ _
        go_wp2_with fail
        go_meet
        exact ⟨_, _, rfl, rfl, HG6.out, HG7.out, HBc.out⟩
       exact AllReadyH.nil
      exact AllReadyH.nil
     exact AllReadyH.nil
    exact AllReadyH.nil
   exact AllReadyH.nil
  refine AllReadyH.cons (o := _) rfl (fun K hK => ?_) ?_
  ·go_simp
   have hG := Blk.new wd 59 [.slice none 0 0, .slice none 0 0]
   change Blk (wd.alloc (.cells #[.slice none 0 0, .slice none 0 0] 59)) _ _ _ at hG
   have hal := (Below.refl wd.heap.size wd).alloc (Nat.le_refl _) (.cells #[.slice none 0 0, .slice none 0 0] 59)
   have HGe6 := Lib.hid (show wa.heap.size ≤ wd.heap.size from HBc.out.size)
   have HG6 := Lib.hid hG
   have HBc := Lib.hid (HBc.out.trans (hal.mono HBc.out.size))
   clear hal hG
   generalize wd.alloc (.cells #[.slice none 0 0, .slice none 0 0] 59) = s6 at *
   refine hko hK (by exact HKS.out _ HBc.out) (fun _ => ?_)
   clear hK K
   refine wpAnyH_ready (rs := [2, 7]) (by kernel_rfl) (by simp) ?_
   refine AllReadyH.cons (o := _) rfl (fun K hK => ?_) ?_
   ·go_simp
    refine (HRd2.out _).mono ?_
    rintro e2 r2 ⟨rfl, hb2⟩
    (try go_wp2_with fail)
    have HG6 := Lib.hid (HG6.out.kept hb2)
    have HBc := Lib.hid (HBc.out.trans (hb2.mono HBc.out.size))
    clear hb2
    refine hko hK (by exact HKS.out _ HBc.out) (fun _ => ?_)
    clear hK K
    refine wpAnyH_ready (rs := [5, 7]) (by kernel_rfl) (by simp) ?_
    refine AllReadyH.cons (o := _) rfl (fun K hK => ?_) ?_
    ·go_simp
     refine (HRd5.out _).mono ?_
     rintro e5 r5 ⟨rfl, hb5⟩
     (try go_wp2_with fail)
     have HG6 := Lib.hid (HG6.out.kept hb5)
     have HBc := Lib.hid (HBc.out.trans (hb5.mono HBc.out.size))
     clear hb5
     refine hko hK (by exact HKS.out _ HBc.out) (fun _ => ?_)
     clear hK K
     refine wpAnyH_ready (rs := [7]) (by kernel_rfl) (by simp) ?_
     refine AllReadyH.cons (o := _) rfl (fun K hK => ?_) ?_
     ·go_simp
      have hG := Blk.new r5 59 [.slice none 0 0, .slice none 0 0]
      change Blk (r5.alloc (.cells #[.slice none 0 0, .slice none 0 0] 59)) _ _ _ at hG
      have hal := (Below.refl r5.heap.size r5).alloc (Nat.le_refl _) (.cells #[.slice none 0 0, .slice none 0 0] 59)
      have HGe7 := Lib.hid (show wa.heap.size ≤ r5.heap.size from HBc.out.size)
      have HNe := Lib.hid (show wd.heap.size ≠ r5.heap.size by have := HG6.out.lt; omega)
      have HG6 := Lib.hid (HG6.out.kept hal)
      have HG7 := Lib.hid hG
      have HBc := Lib.hid (HBc.out.trans (hal.mono HBc.out.size))
      clear hal hG
      generalize r5.alloc (.cells #[.slice none 0 0, .slice none 0 0] 59) = s7 at *
      refine hko hK (by exact HKS.out _ HBc.out) (fun _ => ?_)
      clear hK K
      refine wpAnyH_ready (rs := [8]) (by kernel_rfl) (by simp) ?_
      refine AllReadyH.cons (o := _) rfl (fun K hK => ?_) ?_
      ·refine wp_store_row 59 (.tmp 9) (.tmp 13) rfl _ _ rfl rfl 59 _ HG6.out (by kernel_rfl) rfl (by simp [Value.oneCell']) ?_
       have hG : Blk (s7.setRow wd.heap.size #[.slice none 0 0, .slice none 0 0]) wd.heap.size 59 [.slice none 0 0, .slice none 0 0] := setRow_heap _ _ _ _ _ _ HG6.out
       have HG7 := Lib.hid (HG7.out.setRowN (Ne.symm HNe.out) #[.slice none 0 0, .slice none 0 0])
       have HG6 := Lib.hid hG
       have HBc := Lib.hid (below_setRow HBc.out HGe6.out #[.slice none 0 0, .slice none 0 0])
       clear hG
       generalize s7.setRow wd.heap.size #[.slice none 0 0, .slice none 0 0] = z8 at *
       refine hko hK (by exact HKS.out _ HBc.out) (fun _ => ?_)
       clear hK K
       refine wpAnyH_ready (rs := [9]) (by kernel_rfl) (by simp) ?_
       refine AllReadyH.cons (o := _) rfl (fun K hK => ?_) ?_
       ·refine wp_store_row 59 (.tmp 10) (.tmp 16) rfl _ _ rfl rfl 59 _ HG7.out (by kernel_rfl) rfl (by simp [Value.oneCell']) ?_
        have hG : Blk (z8.setRow r5.heap.size #[.slice none 0 0, .slice none 0 0]) r5.heap.size 59 [.slice none 0 0, .slice none 0 0] := setRow_heap _ _ _ _ _ _ HG7.out
        have HG6 := Lib.hid (HG6.out.setRowN HNe.out #[.slice none 0 0, .slice none 0 0])
        have HG7 := Lib.hid hG
        have HBc := Lib.hid (below_setRow HBc.out HGe7.out #[.slice none 0 0, .slice none 0 0])
        clear hG
        generalize z8.setRow r5.heap.size #[.slice none 0 0, .slice none 0 0] = z9 at *
        refine hko hK (by exact HKS.out _ HBc.out) (fun _ => ?_)
        clear hK K
        refine wpAnyH_done (by kernel_rfl) ?_ _
        go_wp2_with fail
        go_meet
        exact ⟨_, _, rfl, rfl, HG6.out, HG7.out, HBc.out⟩
       exact AllReadyH.nil
      exact AllReadyH.nil
     exact AllReadyH.nil
    refine AllReadyH.cons (o := _) rfl (fun K hK => ?_) ?_
    ·go_simp
     have hG := Blk.new r2 59 [.slice none 0 0, .slice none 0 0]
     change Blk (r2.alloc (.cells #[.slice none 0 0, .slice none 0 0] 59)) _ _ _ at hG
     have hal := (Below.refl r2.heap.size r2).alloc (Nat.le_refl _) (.cells #[.slice none 0 0, .slice none 0 0] 59)
     have HGe7 := Lib.hid (show wa.heap.size ≤ r2.heap.size from HBc.out.size)
     have HNe := Lib.hid (show wd.heap.size ≠ r2.heap.size by have := HG6.out.lt; omega)
     have HG6 := Lib.hid (HG6.out.kept hal)
     have HG7 := Lib.hid hG
     have HBc := Lib.hid (HBc.out.trans (hal.mono HBc.out.size))
     clear hal hG
     generalize r2.alloc (.cells #[.slice none 0 0, .slice none 0 0] 59) = s7 at *
     refine hko hK (by exact HKS.out _ HBc.out) (fun _ => ?_)
     clear hK K
     refine wpAnyH_ready (rs := [5]) (by kernel_rfl) (by simp) ?_
     refine AllReadyH.cons (o := _) rfl (fun K hK => ?_) ?_
     ·go_simp
      refine (HRd5.out _).mono ?_
      rintro e5 r5 ⟨rfl, hb5⟩
      (try go_wp2_with fail)
      have HG6 := Lib.hid (HG6.out.kept hb5)
      have HG7 := Lib.hid (HG7.out.kept hb5)
      have HBc := Lib.hid (HBc.out.trans (hb5.mono HBc.out.size))
      clear hb5
      refine hko hK (by exact HKS.out _ HBc.out) (fun _ => ?_)
      clear hK K
      refine wpAnyH_ready (rs := [8]) (by kernel_rfl) (by simp) ?_
      refine AllReadyH.cons (o := _) rfl (fun K hK => ?_) ?_
      ·refine wp_store_row 59 (.tmp 9) (.tmp 13) rfl _ _ rfl rfl 59 _ HG6.out (by kernel_rfl) rfl (by simp [Value.oneCell']) ?_
       have hG : Blk (r5.setRow wd.heap.size #[.slice none 0 0, .slice none 0 0]) wd.heap.size 59 [.slice none 0 0, .slice none 0 0] := setRow_heap _ _ _ _ _ _ HG6.out
       have HG7 := Lib.hid (HG7.out.setRowN (Ne.symm HNe.out) #[.slice none 0 0, .slice none 0 0])
       have HG6 := Lib.hid hG
       have HBc := Lib.hid (below_setRow HBc.out HGe6.out #[.slice none 0 0, .slice none 0 0])
       clear hG
       generalize r5.setRow wd.heap.size #[.slice none 0 0, .slice none 0 0] = z8 at *
       refine hko hK (by exact HKS.out _ HBc.out) (fun _ => ?_)
       clear hK K
       refine wpAnyH_ready (rs := [9]) (by kernel_rfl) (by simp) ?_
       refine AllReadyH.cons (o := _) rfl (fun K hK => ?_) ?_
       ·refine wp_store_row 59 (.tmp 10) (.tmp 16) rfl _ _ rfl rfl 59 _ HG7.out (by kernel_rfl) rfl (by simp [Value.oneCell']) ?_
        have hG : Blk (z8.setRow r2.heap.size #[.slice none 0 0, .slice none 0 0]) r2.heap.size 59 [.slice none 0 0, .slice none 0 0] := setRow_heap _ _ _ _ _ _ HG7.out
        have HG6 := Lib.hid (HG6.out.setRowN HNe.out #[.slice none 0 0, .slice none 0 0])
        have HG7 := Lib.hid hG
        have HBc := Lib.hid (below_setRow HBc.out HGe7.out #[.slice none 0 0, .slice none 0 0])
        clear hG
        generalize z8.setRow r2.heap.size #[.slice none 0 0, .slice none 0 0] = z9 at *
        refine hko hK (by exact HKS.out _ HBc.out) (fun _ => ?_)
        clear hK K
        refine wpAnyH_done (by kernel_rfl) ?_ _
        go_wp2_with fail
        go_meet
        exact ⟨_, _, rfl, rfl, HG6.out, HG7.out, HBc.out⟩
       exact AllReadyH.nil
      exact AllReadyH.nil
     exact AllReadyH.nil
    exact AllReadyH.nil
   refine AllReadyH.cons (o := _) rfl (fun K hK => ?_) ?_
   ·go_simp
    have hG := Blk.new s6 59 [.slice none 0 0, .slice none 0 0]
    change Blk (s6.alloc (.cells #[.slice none 0 0, .slice none 0 0] 59)) _ _ _ at hG
    have hal := (Below.refl s6.heap.size s6).alloc (Nat.le_refl _) (.cells #[.slice none 0 0, .slice none 0 0] 59)
    have HGe7 := Lib.hid (show wa.heap.size ≤ s6.heap.size from HBc.out.size)
    have HNe := Lib.hid (show wd.heap.size ≠ s6.heap.size by have := HG6.out.lt; omega)
    have HG6 := Lib.hid (HG6.out.kept hal)
    have HG7 := Lib.hid hG
    have HBc := Lib.hid (HBc.out.trans (hal.mono HBc.out.size))
    clear hal hG
    generalize s6.alloc (.cells #[.slice none 0 0, .slice none 0 0] 59) = s7 at *
    refine hko hK (by exact HKS.out _ HBc.out) (fun _ => ?_)
    clear hK K
    refine wpAnyH_ready (rs := [2]) (by kernel_rfl) (by simp) ?_
    refine AllReadyH.cons (o := _) rfl (fun K hK => ?_) ?_
    ·go_simp
     refine (HRd2.out _).mono ?_
     rintro e2 r2 ⟨rfl, hb2⟩
     (try go_wp2_with fail)
     have HG6 := Lib.hid (HG6.out.kept hb2)
     have HG7 := Lib.hid (HG7.out.kept hb2)
     have HBc := Lib.hid (HBc.out.trans (hb2.mono HBc.out.size))
     clear hb2
     refine hko hK (by exact HKS.out _ HBc.out) (fun _ => ?_)
     clear hK K
     refine wpAnyH_ready (rs := [5]) (by kernel_rfl) (by simp) ?_
     refine AllReadyH.cons (o := _) rfl (fun K hK => ?_) ?_
     ·go_simp
      refine (HRd5.out _).mono ?_
      rintro e5 r5 ⟨rfl, hb5⟩
      (try go_wp2_with fail)
      have HG6 := Lib.hid (HG6.out.kept hb5)
      have HG7 := Lib.hid (HG7.out.kept hb5)
      have HBc := Lib.hid (HBc.out.trans (hb5.mono HBc.out.size))
      clear hb5
      refine hko hK (by exact HKS.out _ HBc.out) (fun _ => ?_)
      clear hK K
      refine wpAnyH_ready (rs := [8]) (by kernel_rfl) (by simp) ?_
      refine AllReadyH.cons (o := _) rfl (fun K hK => ?_) ?_
      ·refine wp_store_row 59 (.tmp 9) (.tmp 13) rfl _ _ rfl rfl 59 _ HG6.out (by kernel_rfl) rfl (by simp [Value.oneCell']) ?_
       have hG : Blk (r5.setRow wd.heap.size #[.slice none 0 0, .slice none 0 0]) wd.heap.size 59 [.slice none 0 0, .slice none 0 0] := setRow_heap _ _ _ _ _ _ HG6.out
       have HG7 := Lib.hid (HG7.out.setRowN (Ne.symm HNe.out) #[.slice none 0 0, .slice none 0 0])
       have HG6 := Lib.hid hG
       have HBc := Lib.hid (below_setRow HBc.out HGe6.out #[.slice none 0 0, .slice none 0 0])
       clear hG
       generalize r5.setRow wd.heap.size #[.slice none 0 0, .slice none 0 0] = z8 at *
       refine hko hK (by exact HKS.out _ HBc.out) (fun _ => ?_)
       clear hK K
       refine wpAnyH_ready (rs := [9]) (by kernel_rfl) (by simp) ?_
       refine AllReadyH.cons (o := _) rfl (fun K hK => ?_) ?_
       ·refine wp_store_row 59 (.tmp 10) (.tmp 16) rfl _ _ rfl rfl 59 _ HG7.out (by kernel_rfl) rfl (by simp [Value.oneCell']) ?_
        have hG : Blk (z8.setRow s6.heap.size #[.slice none 0 0, .slice none 0 0]) s6.heap.size 59 [.slice none 0 0, .slice none 0 0] := setRow_heap _ _ _ _ _ _ HG7.out
        have HG6 := Lib.hid (HG6.out.setRowN HNe.out #[.slice none 0 0, .slice none 0 0])
        have HG7 := Lib.hid hG
        have HBc := Lib.hid (below_setRow HBc.out HGe7.out #[.slice none 0 0, .slice none 0 0])
        clear hG
        generalize z8.setRow s6.heap.size #[.slice none 0 0, .slice none 0 0] = z9 at *
        refine hko hK (by exact HKS.out _ HBc.out) (fun _ => ?_)
        clear hK K
        refine wpAnyH_done (by kernel_rfl) ?_ _
        go_wp2_with fail
        go_meet
        exact ⟨_, _, rfl, rfl, HG6.out, HG7.out, HBc.out⟩
       exact AllReadyH.nil
      exact AllReadyH.nil
     exact AllReadyH.nil
    exact AllReadyH.nil
   exact AllReadyH.nil
  refine AllReadyH.cons (o := _) rfl (fun K hK => ?_) ?_
  ·go_simp
   have hG := Blk.new wd 59 [.slice none 0 0, .slice none 0 0]
   change Blk (wd.alloc (.cells #[.slice none 0 0, .slice none 0 0] 59)) _ _ _ at hG
   have hal := (Below.refl wd.heap.size wd).alloc (Nat.le_refl _) (.cells #[.slice none 0 0, .slice none 0 0] 59)
   have HGe7 := Lib.hid (show wa.heap.size ≤ wd.heap.size from HBc.out.size)
   have HG7 := Lib.hid hG
   have HBc := Lib.hid (HBc.out.trans (hal.mono HBc.out.size))
   clear hal hG
   generalize wd.alloc (.cells #[.slice none 0 0, .slice none 0 0] 59) = s7 at *
   refine hko hK (by exact HKS.out _ HBc.out) (fun _ => ?_)
   clear hK K
   refine wpAnyH_ready (rs := [2, 6]) (by kernel_rfl) (by simp) ?_
   refine AllReadyH.cons (o := _) rfl (fun K hK => ?_) ?_
   ·go_simp
    refine (HRd2.out _).mono ?_
    rintro e2 r2 ⟨rfl, hb2⟩
    (try go_wp2_with fail)
    have HG7 := Lib.hid (HG7.out.kept hb2)
    have HBc := Lib.hid (HBc.out.trans (hb2.mono HBc.out.size))
    clear hb2
    refine hko hK (by exact HKS.out _ HBc.out) (fun _ => ?_)
    clear hK K
    refine wpAnyH_ready (rs := [5, 6]) (by kernel_rfl) (by simp) ?_
    refine AllReadyH.cons (o := _) rfl (fun K hK => ?_) ?_
    ·go_simp
     refine (HRd5.out _).mono ?_
     rintro e5 r5 ⟨rfl, hb5⟩
     (try go_wp2_with fail)
     have HG7 := Lib.hid (HG7.out.kept hb5)
     have HBc := Lib.hid (HBc.out.trans (hb5.mono HBc.out.size))
     clear hb5
     refine hko hK (by exact HKS.out _ HBc.out) (fun _ => ?_)
     clear hK K
     refine wpAnyH_ready (rs := [6]) (by kernel_rfl) (by simp) ?_
     refine AllReadyH.cons (o := _) rfl (fun K hK => ?_) ?_
     ·go_simp
      have hG := Blk.new r5 59 [.slice none 0 0, .slice none 0 0]
      change Blk (r5.alloc (.cells #[.slice none 0 0, .slice none 0 0] 59)) _ _ _ at hG
      have hal := (Below.refl r5.heap.size r5).alloc (Nat.le_refl _) (.cells #[.slice none 0 0, .slice none 0 0] 59)
      have HGe6 := Lib.hid (show wa.heap.size ≤ r5.heap.size from HBc.out.size)
      have HNe := Lib.hid (show wd.heap.size ≠ r5.heap.size by have := HG7.out.lt; omega)
      have HG7 := Lib.hid (HG7.out.kept hal)
      have HG6 := Lib.hid hG
      have HBc := Lib.hid (HBc.out.trans (hal.mono HBc.out.size))
      clear hal hG
      generalize r5.alloc (.cells #[.slice none 0 0, .slice none 0 0] 59) = s6 at *
      refine hko hK (by exact HKS.out _ HBc.out) (fun _ => ?_)
      clear hK K
      refine wpAnyH_ready (rs := [8]) (by kernel_rfl) (by simp) ?_
      refine AllReadyH.cons (o := _) rfl (fun K hK => ?_) ?_
      ·refine wp_store_row 59 (.tmp 9) (.tmp 13) rfl _ _ rfl rfl 59 _ HG6.out (by kernel_rfl) rfl (by simp [Value.oneCell']) ?_
       have hG : Blk (s6.setRow r5.heap.size #[.slice none 0 0, .slice none 0 0]) r5.heap.size 59 [.slice none 0 0, .slice none 0 0] := setRow_heap _ _ _ _ _ _ HG6.out
       have HG7 := Lib.hid (HG7.out.setRowN HNe.out #[.slice none 0 0, .slice none 0 0])
       have HG6 := Lib.hid hG
       have HBc := Lib.hid (below_setRow HBc.out HGe6.out #[.slice none 0 0, .slice none 0 0])
       clear hG
       generalize s6.setRow r5.heap.size #[.slice none 0 0, .slice none 0 0] = z8 at *
       refine hko hK (by exact HKS.out _ HBc.out) (fun _ => ?_)
       clear hK K
       refine wpAnyH_ready (rs := [9]) (by kernel_rfl) (by simp) ?_
       refine AllReadyH.cons (o := _) rfl (fun K hK => ?_) ?_
       ·refine wp_store_row 59 (.tmp 10) (.tmp 16) rfl _ _ rfl rfl 59 _ HG7.out (by kernel_rfl) rfl (by simp [Value.oneCell']) ?_
        have hG : Blk (z8.setRow wd.heap.size #[.slice none 0 0, .slice none 0 0]) wd.heap.size 59 [.slice none 0 0, .slice none 0 0] := setRow_heap _ _ _ _ _ _ HG7.out
        have HG6 := Lib.hid (HG6.out.setRowN (Ne.symm HNe.out) #[.slice none 0 0, .slice none 0 0])
        have HG7 := Lib.hid hG
        have HBc := Lib.hid (below_setRow HBc.out HGe7.out #[.slice none 0 0, .slice none 0 0])
        clear hG
        generalize z8.setRow wd.heap.size #[.slice none 0 0, .slice none 0 0] = z9 at *
        refine hko hK (by exact HKS.out _ HBc.out) (fun _ => ?_)
        clear hK K
        refine wpAnyH_done (by kernel_rfl) ?_ _
        go_wp2_with fail
        go_meet
        exact ⟨_, _, rfl, rfl, HG6.out, HG7.out, HBc.out⟩
       exact AllReadyH.nil
      exact AllReadyH.nil
     exact AllReadyH.nil
    refine AllReadyH.cons (o := _) rfl (fun K hK => ?_) ?_
    ·go_simp
     have hG := Blk.new r2 59 [.slice none 0 0, .slice none 0 0]
     change Blk (r2.alloc (.cells #[.slice none 0 0, .slice none 0 0] 59)) _ _ _ at hG
     have hal := (Below.refl r2.heap.size r2).alloc (Nat.le_refl _) (.cells #[.slice none 0 0, .slice none 0 0] 59)
     have HGe6 := Lib.hid (show wa.heap.size ≤ r2.heap.size from HBc.out.size)
     have HNe := Lib.hid (show wd.heap.size ≠ r2.heap.size by have := HG7.out.lt; omega)
     have HG7 := Lib.hid (HG7.out.kept hal)
     have HG6 := Lib.hid hG
     have HBc := Lib.hid (HBc.out.trans (hal.mono HBc.out.size))
     clear hal hG
     generalize r2.alloc (.cells #[.slice none 0 0, .slice none 0 0] 59) = s6 at *
     refine hko hK (by exact HKS.out _ HBc.out) (fun _ => ?_)
     clear hK K
     refine wpAnyH_ready (rs := [5]) (by kernel_rfl) (by simp) ?_
     refine AllReadyH.cons (o := _) rfl (fun K hK => ?_) ?_
     ·go_simp
      refine (HRd5.out _).mono ?_
      rintro e5 r5 ⟨rfl, hb5⟩
      (try go_wp2_with fail)
      have HG6 := Lib.hid (HG6.out.kept hb5)
      have HG7 := Lib.hid (HG7.out.kept hb5)
      have HBc := Lib.hid (HBc.out.trans (hb5.mono HBc.out.size))
      clear hb5
      refine hko hK (by exact HKS.out _ HBc.out) (fun _ => ?_)
      clear hK K
      refine wpAnyH_ready (rs := [8]) (by kernel_rfl) (by simp) ?_
      refine AllReadyH.cons (o := _) rfl (fun K hK => ?_) ?_
      ·refine wp_store_row 59 (.tmp 9) (.tmp 13) rfl _ _ rfl rfl 59 _ HG6.out (by kernel_rfl) rfl (by simp [Value.oneCell']) ?_
       have hG : Blk (r5.setRow r2.heap.size #[.slice none 0 0, .slice none 0 0]) r2.heap.size 59 [.slice none 0 0, .slice none 0 0] := setRow_heap _ _ _ _ _ _ HG6.out
       have HG7 := Lib.hid (HG7.out.setRowN HNe.out #[.slice none 0 0, .slice none 0 0])
       have HG6 := Lib.hid hG
       have HBc := Lib.hid (below_setRow HBc.out HGe6.out #[.slice none 0 0, .slice none 0 0])
       clear hG
       generalize r5.setRow r2.heap.size #[.slice none 0 0, .slice none 0 0] = z8 at *
       refine hko hK (by exact HKS.out _ HBc.out) (fun _ => ?_)
       clear hK K
       refine wpAnyH_ready (rs := [9]) (by kernel_rfl) (by simp) ?_
       refine AllReadyH.cons (o := _) rfl (fun K hK => ?_) ?_
       ·refine wp_store_row 59 (.tmp 10) (.tmp 16) rfl _ _ rfl rfl 59 _ HG7.out (by kernel_rfl) rfl (by simp [Value.oneCell']) ?_
        have hG : Blk (z8.setRow wd.heap.size #[.slice none 0 0, .slice none 0 0]) wd.heap.size 59 [.slice none 0 0, .slice none 0 0] := setRow_heap _ _ _ _ _ _ HG7.out
        have HG6 := Lib.hid (HG6.out.setRowN (Ne.symm HNe.out) #[.slice none 0 0, .slice none 0 0])
        have HG7 := Lib.hid hG
        have HBc := Lib.hid (below_setRow HBc.out HGe7.out #[.slice none 0 0, .slice none 0 0])
        clear hG
        generalize z8.setRow wd.heap.size #[.slice none 0 0, .slice none 0 0] = z9 at *
        refine hko hK (by exact HKS.out _ HBc.out) (fun _ => ?_)
        clear hK K
        refine wpAnyH_done (by kernel_rfl) ?_ _
        go_wp2_with fail
        go_meet
        exact ⟨_, _, rfl, rfl, HG6.out, HG7.out, HBc.out⟩
       exact AllReadyH.nil
      exact AllReadyH.nil
     exact AllReadyH.nil
    exact AllReadyH.nil
   refine AllReadyH.cons (o := _) rfl (fun K hK => ?_) ?_
   ·go_simp
    have hG := Blk.new s7 59 [.slice none 0 0, .slice none 0 0]
    change Blk (s7.alloc (.cells #[.slice none 0 0, .slice none 0 0] 59)) _ _ _ at hG
    have hal := (Below.refl s7.heap.size s7).alloc (Nat.le_refl _) (.cells #[.slice none 0 0, .slice none 0 0] 59)
    have HGe6 := Lib.hid (show wa.heap.size ≤ s7.heap.size from HBc.out.size)
    have HNe := Lib.hid (show wd.heap.size ≠ s7.heap.size by have := HG7.out.lt; omega)
    have HG7 := Lib.hid (HG7.out.kept hal)
    have HG6 := Lib.hid hG
    have HBc := Lib.hid (HBc.out.trans (hal.mono HBc.out.size))
    clear hal hG
    generalize s7.alloc (.cells #[.slice none 0 0, .slice none 0 0] 59) = s6 at *
    refine hko hK (by exact HKS.out _ HBc.out) (fun _ => ?_)
    clear hK K
    refine wpAnyH_ready (rs := [2]) (by kernel_rfl) (by simp) ?_
    refine AllReadyH.cons (o := _) rfl (fun K hK => ?_) ?_
    ·go_simp
     refine (HRd2.out _).mono ?_
     rintro e2 r2 ⟨rfl, hb2⟩
     (try go_wp2_with fail)
     have HG6 := Lib.hid (HG6.out.kept hb2)
     have HG7 := Lib.hid (HG7.out.kept hb2)
     have HBc := Lib.hid (HBc.out.trans (hb2.mono HBc.out.size))
     clear hb2
     refine hko hK (by exact HKS.out _ HBc.out) (fun _ => ?_)
     clear hK K
     refine wpAnyH_ready (rs := [5]) (by kernel_rfl) (by simp) ?_
     refine AllReadyH.cons (o := _) rfl (fun K hK => ?_) ?_
     ·go_simp
      refine (HRd5.out _).mono ?_
      rintro e5 r5 ⟨rfl, hb5⟩
      (try go_wp2_with fail)
      have HG6 := Lib.hid (HG6.out.kept hb5)
      have HG7 := Lib.hid (HG7.out.kept hb5)
      have HBc := Lib.hid (HBc.out.trans (hb5.mono HBc.out.size))
      clear hb5
      refine hko hK (by exact HKS.out _ HBc.out) (fun _ => ?_)
      clear hK K
      refine wpAnyH_ready (rs := [8]) (by kernel_rfl) (by simp) ?_
      refine AllReadyH.cons (o := _) rfl (fun K hK => ?_) ?_
      ·refine wp_store_row 59 (.tmp 9) (.tmp 13) rfl _ _ rfl rfl 59 _ HG6.out (by kernel_rfl) rfl (by simp [Value.oneCell']) ?_
       have hG : Blk (r5.setRow s7.heap.size #[.slice none 0 0, .slice none 0 0]) s7.heap.size 59 [.slice none 0 0, .slice none 0 0] := setRow_heap _ _ _ _ _ _ HG6.out
       have HG7 := Lib.hid (HG7.out.setRowN HNe.out #[.slice none 0 0, .slice none 0 0])
       have HG6 := Lib.hid hG
       have HBc := Lib.hid (below_setRow HBc.out HGe6.out #[.slice none 0 0, .slice none 0 0])
       clear hG
       generalize r5.setRow s7.heap.size #[.slice none 0 0, .slice none 0 0] = z8 at *
       refine hko hK (by exact HKS.out _ HBc.out) (fun _ => ?_)
       clear hK K
       refine wpAnyH_ready (rs := [9]) (by kernel_rfl) (by simp) ?_
       refine AllReadyH.cons (o := _) rfl (fun K hK => ?_) ?_
       ·refine wp_store_row 59 (.tmp 10) (.tmp 16) rfl _ _ rfl rfl 59 _ HG7.out (by kernel_rfl) rfl (by simp [Value.oneCell']) ?_
        have hG : Blk (z8.setRow wd.heap.size #[.slice none 0 0, .slice none 0 0]) wd.heap.size 59 [.slice none 0 0, .slice none 0 0] := setRow_heap _ _ _ _ _ _ HG7.out
        have HG6 := Lib.hid (HG6.out.setRowN (Ne.symm HNe.out) #[.slice none 0 0, .slice none 0 0])
        have HG7 := Lib.hid hG
        have HBc := Lib.hid (below_setRow HBc.out HGe7.out #[.slice none 0 0, .slice none 0 0])
        clear hG
        generalize z8.setRow wd.heap.size #[.slice none 0 0, .slice none 0 0] = z9 at *
        refine hko hK (by exact HKS.out _ HBc.out) (fun _ => ?_)
        clear hK K
        refine wpAnyH_done (by kernel_rfl) ?_ _
        go_wp2_with fail
        go_meet
        exact ⟨_, _, rfl, rfl, HG6.out, HG7.out, HBc.out⟩
       exact AllReadyH.nil
      exact AllReadyH.nil
     exact AllReadyH.nil
    exact AllReadyH.nil
   exact AllReadyH.nil
  exact AllReadyH.nil
 case rest =>
  obtain ⟨g, h, rfl, rfl, hG, hH, hB⟩ := hcut
  have HB1 := Lib.hid (HB.out.trans (hB.mono HB.out.size))
  have HG := Lib.hid hG
  have HH := Lib.hid hH
  obtain ⟨wx, hwx⟩ : ∃ x, x = wc := ⟨_, rfl⟩
  subst hwx
  clear hG hH hB HBc HKS HK HL
  have HKS : Hid (∀ W, Below wx.heap.size wx W → W.cell? ⟨g, 0, none⟩ = some (.slice none 0 0) ∧ W.cell? ⟨g, 1, none⟩ = some (.slice none 0 0) ∧ W.cell? ⟨h, 0, none⟩ = some (.slice none 0 0) ∧ W.cell? ⟨h, 1, none⟩ = some (.slice none 0 0)) := Lib.hid (fun W hW => ⟨(HG.out.kept hW).cell (i := 0) rfl, (HG.out.kept hW).cell (i := 1) rfl, (HH.out.kept hW).cell (i := 0) rfl, (HH.out.kept hW).cell (i := 1) rfl⟩)
  have HBc := Lib.hid (Below.refl wx.heap.size wx).drew
  have n0 : (strB [] != strB []) = false := bneV_false rfl
  generalize strB [] = T at *
  go_upto_region 2 with fail
  refine wp_region_held_drew (S := (fun W => W.cell? ⟨g, 0, none⟩ = some (.slice none 0 0) ∧ W.cell? ⟨g, 1, none⟩ = some (.slice none 0 0) ∧ W.cell? ⟨h, 0, none⟩ = some (.slice none 0 0) ∧ W.cell? ⟨h, 1, none⟩ = some (.slice none 0 0))) (by kernel_rfl) ?_ (fun hHeld => ?_)
  ·exact HKS.out _ HBc.out
  refine tk 0 ?_
  refine tk 3 ?_
  refine wpAnyH_ready (rs := [1]) (by kernel_rfl) (by simp) ?_
  refine AllReadyH.cons (o := _) rfl (fun K hK => ?_) ?_
  ·go_simp
   refine (HLo.out _).mono ?_
   rintro e1 r1 ⟨rfl, hb1⟩
   (try go_wp2_with fail)
   have HBc := Lib.hid (HBc.out.trans (hb1.mono HBc.out.size))
   clear hb1
   refine hko hK (by exact HKS.out _ HBc.out) (fun _ => ?_)
   clear hK K
   refine tk 2 ?_
   refine wpAnyH_ready (rs := [4]) (by kernel_rfl) (by simp) ?_
   refine AllReadyH.cons (o := _) rfl (fun K hK => ?_) ?_
   ·go_simp
    refine (HLo.out _).mono ?_
    rintro e4 r4 ⟨rfl, hb4⟩
    (try go_wp2_with fail)
    have HBc := Lib.hid (HBc.out.trans (hb4.mono HBc.out.size))
    clear hb4
    refine hko hK (by exact HKS.out _ HBc.out) (fun _ => ?_)
    clear hK K
    refine tk 5 ?_
    refine tk 6 ?_
    refine tk 7 ?_
    refine tk 8 ?_
    refine wpAnyH_done (by kernel_rfl) ?_ _
    go_upto_region 4 with fail
    have HBc := Lib.hid HBc.out.drew
    refine wp_region_held_drew (S := (fun W => W.cell? ⟨g, 0, none⟩ = some (.slice none 0 0) ∧ W.cell? ⟨g, 1, none⟩ = some (.slice none 0 0) ∧ W.cell? ⟨h, 0, none⟩ = some (.slice none 0 0) ∧ W.cell? ⟨h, 1, none⟩ = some (.slice none 0 0))) (by kernel_rfl) ?_ (fun hHeld => ?_)
    ·exact HKS.out _ HBc.out
    refine tk 0 ?_
    refine tk 2 ?_
    refine wpAnyH_ready (rs := [1]) (by kernel_rfl) (by simp) ?_
    refine AllReadyH.cons (o := _) rfl (fun K hK => ?_) ?_
    ·go_simp
     refine (HRs.out _).mono ?_
     rintro e1 r1 ⟨rfl, hb1⟩
     (try go_wp2_with fail)
     have HBc := Lib.hid (HBc.out.trans (hb1.mono HBc.out.size))
     clear hb1
     refine hko hK (by exact HKS.out _ HBc.out) (fun _ => ?_)
     clear hK K
     refine wpAnyH_ready (rs := [3]) (by kernel_rfl) (by simp) ?_
     refine AllReadyH.cons (o := _) rfl (fun K hK => ?_) ?_
     ·go_simp
      refine (HRs.out _).mono ?_
      rintro e3 r3 ⟨rfl, hb3⟩
      (try go_wp2_with fail)
      have HBc := Lib.hid (HBc.out.trans (hb3.mono HBc.out.size))
      clear hb3
      refine hko hK (by exact HKS.out _ HBc.out) (fun _ => ?_)
      clear hK K
      refine tk 4 ?_
      refine tk 5 ?_
      refine wpAnyH_done (by kernel_rfl) ?_ _
      go_wp2_with fail
      go_ret
      exact ⟨rfl, HB1.out.trans (HBc.out.mono HB1.out.size)⟩
     exact AllReadyH.nil
    exact AllReadyH.nil
   exact AllReadyH.nil
  exact AllReadyH.nil
theorem alive48_any (w : World) : Calls Tryz.prog 4 #[] w fun r w' => r = .returned (.bool true) ∧ Below w.heap.size w w' := by
 have HC := Lib.hid (copyN w)
 have HV := Lib.hid (fun W => verifyN W)
 go_enter Tryz.func4, Tryz.ntmps4
 go_wp2_with fail
 refine HC.out.mono ?_
 rintro e1 w1 ⟨rfl, hb1⟩
 have HB1 := Lib.hid hb1
 clear hb1
 go_wp2_with fail
 refine (HV.out _).mono ?_
 rintro e2 w2 ⟨rfl, hb2⟩
 have HB2 := Lib.hid (HB1.out.trans (hb2.mono HB1.out.size))
 clear hb2
 go_wp2_with fail
 go_ret
 exact ⟨rfl, HB2.out⟩
end
end Go.Proofs.YtbccghbngaiceaaGreatDoor
