/-
 WALKS: viterbi.before.
-/
import Derived.Test.YtnlnmfkmbpihhaaGreatDoorVitA
namespace Go.Proofs.YtnlnmfkmbpihhaaGreatDoor
open Go.RowKit

set_option maxRecDepth 100000 in
set_option maxHeartbeats 8000000 in
theorem vbefore_any (w : World) (p : ByteArray) (x y : Nat) (hp : bs p = [x, y]) (a g : Nat → Int) (ha : ∀ i, -1 ≤ a i ∧ a i ≤ 1000000) :
  Calls Tryz.prog 163 #[.string p, stgV a g] w fun e w' => ∃ g', e = .returned (stgV (fun s => brc x y a s (vbit x y a s)) g') ∧ Below w.heap.size w w' := by
 have Hbr := Lib.hid (fun W s b (hs : s < 4) (hb : b < 2) => vbranch_any W p x y hp a g ha s b hs hb)
 unfold stgV at Hbr
 unfold stgV
 clear hp ha
 obtain ⟨bb, hbb⟩ : ∃ bb : Nat → Int, ∀ j, bb j = brc x y a j (vbit x y a j) := ⟨_, fun _ => rfl⟩
 simp only [← hbb]
 go_enter Tryz.func163, Tryz.ntmps163
 go_wp2
 go_loopw [9] (fun v wr => ∃ i : Nat, i ≤ 4 ∧ v = .int .i64 i ∧ Below w.heap.size w wr ∧ Box8 wr w.heap.size (.int .i64 (a 0)) (.int .i64 (g 0)) (.int .i64 (a 1)) (.int .i64 (g 1)) (.int .i64 (a 2)) (.int .i64 (g 2)) (.int .i64 (a 3)) (.int .i64 (g 3)) ∧ OutB wr (w.heap.size + 1) 0 bb ∧ OutB wr (w.heap.size + 2) i bb) (fun v _ => 4 - (intOf v).toNat)
 case atStart =>
  refine ⟨0, by omega, rfl, ?_, ?_, ?_, ?_⟩
  ·exact (((Below.refl _ _).alloc (Nat.le_refl _) _).alloc (by simp) _).alloc (by simp; omega) _
  ·have h0 : Blk (w.alloc (.cells (row8 a g).toArray 139)) w.heap.size 139 (row8 a g) := Blk.new w 139 _
   have h1 : Box8 (w.alloc (.cells (row8 a g).toArray 139)) w.heap.size (.int .i64 (a 0)) (.int .i64 (g 0)) (.int .i64 (a 1)) (.int .i64 (g 1)) (.int .i64 (a 2)) (.int .i64 (g 2)) (.int .i64 (a 3)) (.int .i64 (g 3)) := ⟨h0.cell rfl, h0.cell rfl, h0.cell rfl, h0.cell rfl, h0.cell rfl, h0.cell rfl, h0.cell rfl, h0.cell rfl⟩
   exact (h1.al _).al _
  ·have h1 := OutB.new (w.alloc (.cells (row8 a g).toArray 139)) bb
   have h2 := h1.kept ((Below.refl _ _).alloc (Nat.le_refl _) (.cells #[.int .i64 0, .int .i64 0, .int .i64 0, .int .i64 0, .int .i64 0, .int .i64 0, .int .i64 0, .int .i64 0] 139))
   simpa [row8] using h2
  ·have h1 := OutB.new ((w.alloc (.cells (row8 a g).toArray 139)).alloc (.cells #[.int .i64 0, .int .i64 0, .int .i64 0, .int .i64 0, .int .i64 0, .int .i64 0, .int .i64 0, .int .i64 0] 139)) bb
   simpa [row8] using h1
 case round =>
  obtain ⟨i, hi, rfl, hB, hbox, hres, hout⟩ := hrel
  by_cases h : i < 4
  ·have hbbi : (if pick1 (brc x y a i 0) (brc x y a i 1) then brc x y a i 1 else brc x y a i 0) = bb i := by
    rw [hbb, vbit]
    split <;> rfl
   have H0 : Hid (∀ W, Calls Tryz.prog 98 #[.string p, .agg #[.int .i64 (a 0), .int .i64 (g 0), .int .i64 (a 1), .int .i64 (g 1), .int .i64 (a 2), .int .i64 (g 2), .int .i64 (a 3), .int .i64 (g 3)], .int .i64 (i : Int), .int .i64 0] W fun e w' => e = .returned (sufV (brc x y a i 0) (g (cnx i 0))) ∧ Below W.heap.size W w') := Lib.hid (fun W => Hbr.out W i 0 h (by omega))
   have H1 : Hid (∀ W, Calls Tryz.prog 98 #[.string p, .agg #[.int .i64 (a 0), .int .i64 (g 0), .int .i64 (a 1), .int .i64 (g 1), .int .i64 (a 2), .int .i64 (g 2), .int .i64 (a 3), .int .i64 (g 3)], .int .i64 (i : Int), .int .i64 1] W fun e w' => e = .returned (sufV (brc x y a i 1) (g (cnx i 1))) ∧ Below W.heap.size W w') := Lib.hid (fun W => Hbr.out W i 1 h (by omega))
   have hlt : w.heap.size < wr.heap.size := World.block_lt_of_cell? _ _ hbox.1
   have hiI : (i : Int) < 4 := by omega
   unfold sufV at H0 H1
   generalize brc x y a i 0 = C0 at *
   generalize brc x y a i 1 = C1 at *
   generalize g (cnx i 0) = G0 at *
   generalize g (cnx i 1) = G1 at *
   go_upto_region 5 with fail
   go_cut [7, 8] (fun s7 s8 wx => ∃ g7 g8 : Nat, s7 = .pointer (some ⟨g7, 0, none⟩) ∧ s8 = .pointer (some ⟨g8, 0, none⟩) ∧ g7 ≠ g8 ∧ wr.heap.size ≤ g7 ∧ wr.heap.size ≤ g8 ∧ Two wx g7 (.int .i64 C0) (.int .i64 G0) ∧ Two wx g8 (.int .i64 C1) (.int .i64 G1) ∧ Below wr.heap.size wr wx)
   case first =>
    refine wp_region_held_drew (S := (fun w' => Box8 w' w.heap.size (.int .i64 (a 0)) (.int .i64 (g 0)) (.int .i64 (a 1)) (.int .i64 (g 1)) (.int .i64 (a 2)) (.int .i64 (g 2)) (.int .i64 (a 3)) (.int .i64 (g 3)))) (by kernel_rfl) ?_ (fun hHeld => ?_)
    ·(repeat' (first | with_reducible (first | exact hbox | refine Box8.drw ?_ | refine Box8.keep ?_ hb5 | refine Box8.keep ?_ hb6 | refine Box8.keep ?_ hb7 | refine Box8.keep ?_ hb8 | refine Box8.turned ?_ t9 ?_ | refine Box8.turned ?_ t10 ?_) | omega))
    refine tk 0 ?_
    refine tk 1 ?_
    refine tk 2 ?_
    refine tk 4 ?_
    refine tk 5 ?_
    refine tk 6 ?_
    refine wpAnyH_ready (rs := [3, 8, 9]) (by kernel_rfl) (by simp) ?_
    refine AllReadyH.cons (o := _) rfl (fun K hK => ?_) ?_
    ·go_simp
     refine (H0.out _).mono ?_
     rintro e w5 ⟨rfl, hb5⟩
     (try go_wp2_with fail)
     have s5 := hb5.size; (try change wr.heap.size ≤ _ at s5)
     refine hko hK (by (repeat' (first | with_reducible (first | exact hbox | refine Box8.drw ?_ | refine Box8.keep ?_ hb5 | refine Box8.keep ?_ hb6 | refine Box8.keep ?_ hb7 | refine Box8.keep ?_ hb8 | refine Box8.turned ?_ t9 ?_ | refine Box8.turned ?_ t10 ?_) | omega))) (fun _ => ?_)
     clear hK K
     refine wpAnyH_ready (rs := [7, 8, 9]) (by kernel_rfl) (by simp) ?_
     refine AllReadyH.cons (o := _) rfl (fun K hK => ?_) ?_
     ·go_simp
      refine (H1.out _).mono ?_
      rintro e w6 ⟨rfl, hb6⟩
      (try go_wp2_with fail)
      have s6 := hb6.size; (try change wr.heap.size ≤ _ at s6)
      refine hko hK (by (repeat' (first | with_reducible (first | exact hbox | refine Box8.drw ?_ | refine Box8.keep ?_ hb5 | refine Box8.keep ?_ hb6 | refine Box8.keep ?_ hb7 | refine Box8.keep ?_ hb8 | refine Box8.turned ?_ t9 ?_ | refine Box8.turned ?_ t10 ?_) | omega))) (fun _ => ?_)
      clear hK K
      refine wpAnyH_ready (rs := [8, 9]) (by kernel_rfl) (by simp) ?_
      refine AllReadyH.cons (o := _) rfl (fun K hK => ?_) ?_
      ·refine step_alloc2 7 rfl rfl rfl ?_
       intro g7 w7 hg7 p7 hb7
       (try change wr.heap.size ≤ g7 at hg7)
       have l7 := p7.lt
       have s7 := hb7.size; (try change wr.heap.size ≤ _ at s7)
       refine hko hK (by (repeat' (first | with_reducible (first | exact hbox | refine Box8.drw ?_ | refine Box8.keep ?_ hb5 | refine Box8.keep ?_ hb6 | refine Box8.keep ?_ hb7 | refine Box8.keep ?_ hb8 | refine Box8.turned ?_ t9 ?_ | refine Box8.turned ?_ t10 ?_) | omega))) (fun _ => ?_)
       clear hK K
       refine wpAnyH_ready (rs := [9]) (by kernel_rfl) (by simp) ?_
       refine AllReadyH.cons (o := _) rfl (fun K hK => ?_) ?_
       ·refine step_alloc2 8 rfl rfl rfl ?_
        intro g8 w8 hg8 p8 hb8
        (try change wr.heap.size ≤ g8 at hg8)
        have l8 := p8.lt
        have s8 := hb8.size; (try change wr.heap.size ≤ _ at s8)
        refine hko hK (by (repeat' (first | with_reducible (first | exact hbox | refine Box8.drw ?_ | refine Box8.keep ?_ hb5 | refine Box8.keep ?_ hb6 | refine Box8.keep ?_ hb7 | refine Box8.keep ?_ hb8 | refine Box8.turned ?_ t9 ?_ | refine Box8.turned ?_ t10 ?_) | omega))) (fun _ => ?_)
        clear hK K
        refine wpAnyH_ready (rs := [10]) (by kernel_rfl) (by simp) ?_
        refine AllReadyH.cons (o := _) rfl (fun K hK => ?_) ?_
        ·refine step_store2 rfl (.tmp 7) (.tmp 15) rfl rfl rfl rfl rfl (g := g7) (u := .int .i64 0) (v := .int .i64 0) (by (repeat' (first | with_reducible (first | exact p7 | exact p8 | refine Two.keep ?_ hb5 | refine Two.keep ?_ hb6 | refine Two.keep ?_ hb7 | refine Two.keep ?_ hb8)))) ?_
         intro w9 p9 t9
         have s9 := t9.size
         refine hko hK (by (repeat' (first | with_reducible (first | exact hbox | refine Box8.drw ?_ | refine Box8.keep ?_ hb5 | refine Box8.keep ?_ hb6 | refine Box8.keep ?_ hb7 | refine Box8.keep ?_ hb8 | refine Box8.turned ?_ t9 ?_ | refine Box8.turned ?_ t10 ?_) | omega))) (fun _ => ?_)
         clear hK K
         refine wpAnyH_ready (rs := [11]) (by kernel_rfl) (by simp) ?_
         refine AllReadyH.cons (o := _) rfl (fun K hK => ?_) ?_
         ·refine step_store2 rfl (.tmp 8) (.tmp 19) rfl rfl rfl rfl rfl (g := g8) (u := .int .i64 0) (v := .int .i64 0) (by (refine Two.of_heap ?_ (t9.other g8 (by omega)); (repeat' (first | with_reducible (first | exact p7 | exact p8 | refine Two.keep ?_ hb5 | refine Two.keep ?_ hb6 | refine Two.keep ?_ hb7 | refine Two.keep ?_ hb8))))) ?_
          intro w10 p10 t10
          have s10 := t10.size
          refine hko hK (by (repeat' (first | with_reducible (first | exact hbox | refine Box8.drw ?_ | refine Box8.keep ?_ hb5 | refine Box8.keep ?_ hb6 | refine Box8.keep ?_ hb7 | refine Box8.keep ?_ hb8 | refine Box8.turned ?_ t9 ?_ | refine Box8.turned ?_ t10 ?_) | omega))) (fun _ => ?_)
          clear hK K
          refine wpAnyH_done (by kernel_rfl) ?_ _
          have e7 := p9.of_heap (t10.other g7 (by omega))
          have eB : Below wr.heap.size wr w10 := by (repeat' (first | with_reducible exact Below.refl _ _ | exact Nat.le_refl _ | with_reducible (first | refine Below.drew ?_ | refine Turned.below t10 ?_ ?_ | refine Turned.below t9 ?_ ?_ | refine Below.trans ?_ (hb5.mono ?_) | refine Below.trans ?_ (hb6.mono ?_) | refine Below.trans ?_ (hb7.mono ?_) | refine Below.trans ?_ (hb8.mono ?_)) | omega))
          clear hb5 hb6 hb7 hb8 t9 t10 p9 p7 p8
          go_wp2_with fail
          go_meet
          refine ⟨g7, g8, ?_, ?_, by omega, by omega, by omega, e7, p10, eB⟩
          all_goals rfl
         exact AllReadyH.nil
        exact AllReadyH.nil
       exact AllReadyH.nil
      refine AllReadyH.cons (o := _) rfl (fun K hK => ?_) ?_
      ·refine step_alloc2 8 rfl rfl rfl ?_
       intro g8 w8 hg8 p8 hb8
       (try change wr.heap.size ≤ g8 at hg8)
       have l8 := p8.lt
       have s8 := hb8.size; (try change wr.heap.size ≤ _ at s8)
       refine hko hK (by (repeat' (first | with_reducible (first | exact hbox | refine Box8.drw ?_ | refine Box8.keep ?_ hb5 | refine Box8.keep ?_ hb6 | refine Box8.keep ?_ hb7 | refine Box8.keep ?_ hb8 | refine Box8.turned ?_ t9 ?_ | refine Box8.turned ?_ t10 ?_) | omega))) (fun _ => ?_)
       clear hK K
       refine wpAnyH_ready (rs := [8]) (by kernel_rfl) (by simp) ?_
       refine AllReadyH.cons (o := _) rfl (fun K hK => ?_) ?_
       ·refine step_alloc2 7 rfl rfl rfl ?_
        intro g7 w7 hg7 p7 hb7
        (try change wr.heap.size ≤ g7 at hg7)
        have l7 := p7.lt
        have s7 := hb7.size; (try change wr.heap.size ≤ _ at s7)
        refine hko hK (by (repeat' (first | with_reducible (first | exact hbox | refine Box8.drw ?_ | refine Box8.keep ?_ hb5 | refine Box8.keep ?_ hb6 | refine Box8.keep ?_ hb7 | refine Box8.keep ?_ hb8 | refine Box8.turned ?_ t9 ?_ | refine Box8.turned ?_ t10 ?_) | omega))) (fun _ => ?_)
        clear hK K
        refine wpAnyH_ready (rs := [10]) (by kernel_rfl) (by simp) ?_
        refine AllReadyH.cons (o := _) rfl (fun K hK => ?_) ?_
        ·refine step_store2 rfl (.tmp 7) (.tmp 15) rfl rfl rfl rfl rfl (g := g7) (u := .int .i64 0) (v := .int .i64 0) (by (repeat' (first | with_reducible (first | exact p7 | exact p8 | refine Two.keep ?_ hb5 | refine Two.keep ?_ hb6 | refine Two.keep ?_ hb7 | refine Two.keep ?_ hb8)))) ?_
         intro w9 p9 t9
         have s9 := t9.size
         refine hko hK (by (repeat' (first | with_reducible (first | exact hbox | refine Box8.drw ?_ | refine Box8.keep ?_ hb5 | refine Box8.keep ?_ hb6 | refine Box8.keep ?_ hb7 | refine Box8.keep ?_ hb8 | refine Box8.turned ?_ t9 ?_ | refine Box8.turned ?_ t10 ?_) | omega))) (fun _ => ?_)
         clear hK K
         refine wpAnyH_ready (rs := [11]) (by kernel_rfl) (by simp) ?_
         refine AllReadyH.cons (o := _) rfl (fun K hK => ?_) ?_
         ·refine step_store2 rfl (.tmp 8) (.tmp 19) rfl rfl rfl rfl rfl (g := g8) (u := .int .i64 0) (v := .int .i64 0) (by (refine Two.of_heap ?_ (t9.other g8 (by omega)); (repeat' (first | with_reducible (first | exact p7 | exact p8 | refine Two.keep ?_ hb5 | refine Two.keep ?_ hb6 | refine Two.keep ?_ hb7 | refine Two.keep ?_ hb8))))) ?_
          intro w10 p10 t10
          have s10 := t10.size
          refine hko hK (by (repeat' (first | with_reducible (first | exact hbox | refine Box8.drw ?_ | refine Box8.keep ?_ hb5 | refine Box8.keep ?_ hb6 | refine Box8.keep ?_ hb7 | refine Box8.keep ?_ hb8 | refine Box8.turned ?_ t9 ?_ | refine Box8.turned ?_ t10 ?_) | omega))) (fun _ => ?_)
          clear hK K
          refine wpAnyH_done (by kernel_rfl) ?_ _
          have e7 := p9.of_heap (t10.other g7 (by omega))
          have eB : Below wr.heap.size wr w10 := by (repeat' (first | with_reducible exact Below.refl _ _ | exact Nat.le_refl _ | with_reducible (first | refine Below.drew ?_ | refine Turned.below t10 ?_ ?_ | refine Turned.below t9 ?_ ?_ | refine Below.trans ?_ (hb5.mono ?_) | refine Below.trans ?_ (hb6.mono ?_) | refine Below.trans ?_ (hb7.mono ?_) | refine Below.trans ?_ (hb8.mono ?_)) | omega))
          clear hb5 hb6 hb7 hb8 t9 t10 p9 p7 p8
          go_wp2_with fail
          go_meet
          refine ⟨g7, g8, ?_, ?_, by omega, by omega, by omega, e7, p10, eB⟩
          all_goals rfl
         exact AllReadyH.nil
        exact AllReadyH.nil
       exact AllReadyH.nil
      exact AllReadyH.nil
     refine AllReadyH.cons (o := _) rfl (fun K hK => ?_) ?_
     ·refine step_alloc2 7 rfl rfl rfl ?_
      intro g7 w7 hg7 p7 hb7
      (try change wr.heap.size ≤ g7 at hg7)
      have l7 := p7.lt
      have s7 := hb7.size; (try change wr.heap.size ≤ _ at s7)
      refine hko hK (by (repeat' (first | with_reducible (first | exact hbox | refine Box8.drw ?_ | refine Box8.keep ?_ hb5 | refine Box8.keep ?_ hb6 | refine Box8.keep ?_ hb7 | refine Box8.keep ?_ hb8 | refine Box8.turned ?_ t9 ?_ | refine Box8.turned ?_ t10 ?_) | omega))) (fun _ => ?_)
      clear hK K
      refine wpAnyH_ready (rs := [7, 9]) (by kernel_rfl) (by simp) ?_
      refine AllReadyH.cons (o := _) rfl (fun K hK => ?_) ?_
      ·go_simp
       refine (H1.out _).mono ?_
       rintro e w6 ⟨rfl, hb6⟩
       (try go_wp2_with fail)
       have s6 := hb6.size; (try change wr.heap.size ≤ _ at s6)
       refine hko hK (by (repeat' (first | with_reducible (first | exact hbox | refine Box8.drw ?_ | refine Box8.keep ?_ hb5 | refine Box8.keep ?_ hb6 | refine Box8.keep ?_ hb7 | refine Box8.keep ?_ hb8 | refine Box8.turned ?_ t9 ?_ | refine Box8.turned ?_ t10 ?_) | omega))) (fun _ => ?_)
       clear hK K
       refine wpAnyH_ready (rs := [9]) (by kernel_rfl) (by simp) ?_
       refine AllReadyH.cons (o := _) rfl (fun K hK => ?_) ?_
       ·refine step_alloc2 8 rfl rfl rfl ?_
        intro g8 w8 hg8 p8 hb8
        (try change wr.heap.size ≤ g8 at hg8)
        have l8 := p8.lt
        have s8 := hb8.size; (try change wr.heap.size ≤ _ at s8)
        refine hko hK (by (repeat' (first | with_reducible (first | exact hbox | refine Box8.drw ?_ | refine Box8.keep ?_ hb5 | refine Box8.keep ?_ hb6 | refine Box8.keep ?_ hb7 | refine Box8.keep ?_ hb8 | refine Box8.turned ?_ t9 ?_ | refine Box8.turned ?_ t10 ?_) | omega))) (fun _ => ?_)
        clear hK K
        refine wpAnyH_ready (rs := [10]) (by kernel_rfl) (by simp) ?_
        refine AllReadyH.cons (o := _) rfl (fun K hK => ?_) ?_
        ·refine step_store2 rfl (.tmp 7) (.tmp 15) rfl rfl rfl rfl rfl (g := g7) (u := .int .i64 0) (v := .int .i64 0) (by (repeat' (first | with_reducible (first | exact p7 | exact p8 | refine Two.keep ?_ hb5 | refine Two.keep ?_ hb6 | refine Two.keep ?_ hb7 | refine Two.keep ?_ hb8)))) ?_
         intro w9 p9 t9
         have s9 := t9.size
         refine hko hK (by (repeat' (first | with_reducible (first | exact hbox | refine Box8.drw ?_ | refine Box8.keep ?_ hb5 | refine Box8.keep ?_ hb6 | refine Box8.keep ?_ hb7 | refine Box8.keep ?_ hb8 | refine Box8.turned ?_ t9 ?_ | refine Box8.turned ?_ t10 ?_) | omega))) (fun _ => ?_)
         clear hK K
         refine wpAnyH_ready (rs := [11]) (by kernel_rfl) (by simp) ?_
         refine AllReadyH.cons (o := _) rfl (fun K hK => ?_) ?_
         ·refine step_store2 rfl (.tmp 8) (.tmp 19) rfl rfl rfl rfl rfl (g := g8) (u := .int .i64 0) (v := .int .i64 0) (by (refine Two.of_heap ?_ (t9.other g8 (by omega)); (repeat' (first | with_reducible (first | exact p7 | exact p8 | refine Two.keep ?_ hb5 | refine Two.keep ?_ hb6 | refine Two.keep ?_ hb7 | refine Two.keep ?_ hb8))))) ?_
          intro w10 p10 t10
          have s10 := t10.size
          refine hko hK (by (repeat' (first | with_reducible (first | exact hbox | refine Box8.drw ?_ | refine Box8.keep ?_ hb5 | refine Box8.keep ?_ hb6 | refine Box8.keep ?_ hb7 | refine Box8.keep ?_ hb8 | refine Box8.turned ?_ t9 ?_ | refine Box8.turned ?_ t10 ?_) | omega))) (fun _ => ?_)
          clear hK K
          refine wpAnyH_done (by kernel_rfl) ?_ _
          have e7 := p9.of_heap (t10.other g7 (by omega))
          have eB : Below wr.heap.size wr w10 := by (repeat' (first | with_reducible exact Below.refl _ _ | exact Nat.le_refl _ | with_reducible (first | refine Below.drew ?_ | refine Turned.below t10 ?_ ?_ | refine Turned.below t9 ?_ ?_ | refine Below.trans ?_ (hb5.mono ?_) | refine Below.trans ?_ (hb6.mono ?_) | refine Below.trans ?_ (hb7.mono ?_) | refine Below.trans ?_ (hb8.mono ?_)) | omega))
          clear hb5 hb6 hb7 hb8 t9 t10 p9 p7 p8
          go_wp2_with fail
          go_meet
          refine ⟨g7, g8, ?_, ?_, by omega, by omega, by omega, e7, p10, eB⟩
          all_goals rfl
         exact AllReadyH.nil
        exact AllReadyH.nil
       exact AllReadyH.nil
      refine AllReadyH.cons (o := _) rfl (fun K hK => ?_) ?_
      ·refine step_alloc2 8 rfl rfl rfl ?_
       intro g8 w8 hg8 p8 hb8
       (try change wr.heap.size ≤ g8 at hg8)
       have l8 := p8.lt
       have s8 := hb8.size; (try change wr.heap.size ≤ _ at s8)
       refine hko hK (by (repeat' (first | with_reducible (first | exact hbox | refine Box8.drw ?_ | refine Box8.keep ?_ hb5 | refine Box8.keep ?_ hb6 | refine Box8.keep ?_ hb7 | refine Box8.keep ?_ hb8 | refine Box8.turned ?_ t9 ?_ | refine Box8.turned ?_ t10 ?_) | omega))) (fun _ => ?_)
       clear hK K
       refine wpAnyH_ready (rs := [7]) (by kernel_rfl) (by simp) ?_
       refine AllReadyH.cons (o := _) rfl (fun K hK => ?_) ?_
       ·go_simp
        refine (H1.out _).mono ?_
        rintro e w6 ⟨rfl, hb6⟩
        (try go_wp2_with fail)
        have s6 := hb6.size; (try change wr.heap.size ≤ _ at s6)
        refine hko hK (by (repeat' (first | with_reducible (first | exact hbox | refine Box8.drw ?_ | refine Box8.keep ?_ hb5 | refine Box8.keep ?_ hb6 | refine Box8.keep ?_ hb7 | refine Box8.keep ?_ hb8 | refine Box8.turned ?_ t9 ?_ | refine Box8.turned ?_ t10 ?_) | omega))) (fun _ => ?_)
        clear hK K
        refine wpAnyH_ready (rs := [10]) (by kernel_rfl) (by simp) ?_
        refine AllReadyH.cons (o := _) rfl (fun K hK => ?_) ?_
        ·refine step_store2 rfl (.tmp 7) (.tmp 15) rfl rfl rfl rfl rfl (g := g7) (u := .int .i64 0) (v := .int .i64 0) (by (repeat' (first | with_reducible (first | exact p7 | exact p8 | refine Two.keep ?_ hb5 | refine Two.keep ?_ hb6 | refine Two.keep ?_ hb7 | refine Two.keep ?_ hb8)))) ?_
         intro w9 p9 t9
         have s9 := t9.size
         refine hko hK (by (repeat' (first | with_reducible (first | exact hbox | refine Box8.drw ?_ | refine Box8.keep ?_ hb5 | refine Box8.keep ?_ hb6 | refine Box8.keep ?_ hb7 | refine Box8.keep ?_ hb8 | refine Box8.turned ?_ t9 ?_ | refine Box8.turned ?_ t10 ?_) | omega))) (fun _ => ?_)
         clear hK K
         refine wpAnyH_ready (rs := [11]) (by kernel_rfl) (by simp) ?_
         refine AllReadyH.cons (o := _) rfl (fun K hK => ?_) ?_
         ·refine step_store2 rfl (.tmp 8) (.tmp 19) rfl rfl rfl rfl rfl (g := g8) (u := .int .i64 0) (v := .int .i64 0) (by (refine Two.of_heap ?_ (t9.other g8 (by omega)); (repeat' (first | with_reducible (first | exact p7 | exact p8 | refine Two.keep ?_ hb5 | refine Two.keep ?_ hb6 | refine Two.keep ?_ hb7 | refine Two.keep ?_ hb8))))) ?_
          intro w10 p10 t10
          have s10 := t10.size
          refine hko hK (by (repeat' (first | with_reducible (first | exact hbox | refine Box8.drw ?_ | refine Box8.keep ?_ hb5 | refine Box8.keep ?_ hb6 | refine Box8.keep ?_ hb7 | refine Box8.keep ?_ hb8 | refine Box8.turned ?_ t9 ?_ | refine Box8.turned ?_ t10 ?_) | omega))) (fun _ => ?_)
          clear hK K
          refine wpAnyH_done (by kernel_rfl) ?_ _
          have e7 := p9.of_heap (t10.other g7 (by omega))
          have eB : Below wr.heap.size wr w10 := by (repeat' (first | with_reducible exact Below.refl _ _ | exact Nat.le_refl _ | with_reducible (first | refine Below.drew ?_ | refine Turned.below t10 ?_ ?_ | refine Turned.below t9 ?_ ?_ | refine Below.trans ?_ (hb5.mono ?_) | refine Below.trans ?_ (hb6.mono ?_) | refine Below.trans ?_ (hb7.mono ?_) | refine Below.trans ?_ (hb8.mono ?_)) | omega))
          clear hb5 hb6 hb7 hb8 t9 t10 p9 p7 p8
          go_wp2_with fail
          go_meet
          refine ⟨g7, g8, ?_, ?_, by omega, by omega, by omega, e7, p10, eB⟩
          all_goals rfl
         exact AllReadyH.nil
        exact AllReadyH.nil
       exact AllReadyH.nil
      exact AllReadyH.nil
     refine AllReadyH.cons (o := _) rfl (fun K hK => ?_) ?_
     ·refine step_alloc2 8 rfl rfl rfl ?_
      intro g8 w8 hg8 p8 hb8
      (try change wr.heap.size ≤ g8 at hg8)
      have l8 := p8.lt
      have s8 := hb8.size; (try change wr.heap.size ≤ _ at s8)
      refine hko hK (by (repeat' (first | with_reducible (first | exact hbox | refine Box8.drw ?_ | refine Box8.keep ?_ hb5 | refine Box8.keep ?_ hb6 | refine Box8.keep ?_ hb7 | refine Box8.keep ?_ hb8 | refine Box8.turned ?_ t9 ?_ | refine Box8.turned ?_ t10 ?_) | omega))) (fun _ => ?_)
      clear hK K
      refine wpAnyH_ready (rs := [7, 8]) (by kernel_rfl) (by simp) ?_
      refine AllReadyH.cons (o := _) rfl (fun K hK => ?_) ?_
      ·go_simp
       refine (H1.out _).mono ?_
       rintro e w6 ⟨rfl, hb6⟩
       (try go_wp2_with fail)
       have s6 := hb6.size; (try change wr.heap.size ≤ _ at s6)
       refine hko hK (by (repeat' (first | with_reducible (first | exact hbox | refine Box8.drw ?_ | refine Box8.keep ?_ hb5 | refine Box8.keep ?_ hb6 | refine Box8.keep ?_ hb7 | refine Box8.keep ?_ hb8 | refine Box8.turned ?_ t9 ?_ | refine Box8.turned ?_ t10 ?_) | omega))) (fun _ => ?_)
       clear hK K
       refine wpAnyH_ready (rs := [8]) (by kernel_rfl) (by simp) ?_
       refine AllReadyH.cons (o := _) rfl (fun K hK => ?_) ?_
       ·refine step_alloc2 7 rfl rfl rfl ?_
        intro g7 w7 hg7 p7 hb7
        (try change wr.heap.size ≤ g7 at hg7)
        have l7 := p7.lt
        have s7 := hb7.size; (try change wr.heap.size ≤ _ at s7)
        refine hko hK (by (repeat' (first | with_reducible (first | exact hbox | refine Box8.drw ?_ | refine Box8.keep ?_ hb5 | refine Box8.keep ?_ hb6 | refine Box8.keep ?_ hb7 | refine Box8.keep ?_ hb8 | refine Box8.turned ?_ t9 ?_ | refine Box8.turned ?_ t10 ?_) | omega))) (fun _ => ?_)
        clear hK K
        refine wpAnyH_ready (rs := [10]) (by kernel_rfl) (by simp) ?_
        refine AllReadyH.cons (o := _) rfl (fun K hK => ?_) ?_
        ·refine step_store2 rfl (.tmp 7) (.tmp 15) rfl rfl rfl rfl rfl (g := g7) (u := .int .i64 0) (v := .int .i64 0) (by (repeat' (first | with_reducible (first | exact p7 | exact p8 | refine Two.keep ?_ hb5 | refine Two.keep ?_ hb6 | refine Two.keep ?_ hb7 | refine Two.keep ?_ hb8)))) ?_
         intro w9 p9 t9
         have s9 := t9.size
         refine hko hK (by (repeat' (first | with_reducible (first | exact hbox | refine Box8.drw ?_ | refine Box8.keep ?_ hb5 | refine Box8.keep ?_ hb6 | refine Box8.keep ?_ hb7 | refine Box8.keep ?_ hb8 | refine Box8.turned ?_ t9 ?_ | refine Box8.turned ?_ t10 ?_) | omega))) (fun _ => ?_)
         clear hK K
         refine wpAnyH_ready (rs := [11]) (by kernel_rfl) (by simp) ?_
         refine AllReadyH.cons (o := _) rfl (fun K hK => ?_) ?_
         ·refine step_store2 rfl (.tmp 8) (.tmp 19) rfl rfl rfl rfl rfl (g := g8) (u := .int .i64 0) (v := .int .i64 0) (by (refine Two.of_heap ?_ (t9.other g8 (by omega)); (repeat' (first | with_reducible (first | exact p7 | exact p8 | refine Two.keep ?_ hb5 | refine Two.keep ?_ hb6 | refine Two.keep ?_ hb7 | refine Two.keep ?_ hb8))))) ?_
          intro w10 p10 t10
          have s10 := t10.size
          refine hko hK (by (repeat' (first | with_reducible (first | exact hbox | refine Box8.drw ?_ | refine Box8.keep ?_ hb5 | refine Box8.keep ?_ hb6 | refine Box8.keep ?_ hb7 | refine Box8.keep ?_ hb8 | refine Box8.turned ?_ t9 ?_ | refine Box8.turned ?_ t10 ?_) | omega))) (fun _ => ?_)
          clear hK K
          refine wpAnyH_done (by kernel_rfl) ?_ _
          have e7 := p9.of_heap (t10.other g7 (by omega))
          have eB : Below wr.heap.size wr w10 := by (repeat' (first | with_reducible exact Below.refl _ _ | exact Nat.le_refl _ | with_reducible (first | refine Below.drew ?_ | refine Turned.below t10 ?_ ?_ | refine Turned.below t9 ?_ ?_ | refine Below.trans ?_ (hb5.mono ?_) | refine Below.trans ?_ (hb6.mono ?_) | refine Below.trans ?_ (hb7.mono ?_) | refine Below.trans ?_ (hb8.mono ?_)) | omega))
          clear hb5 hb6 hb7 hb8 t9 t10 p9 p7 p8
          go_wp2_with fail
          go_meet
          refine ⟨g7, g8, ?_, ?_, by omega, by omega, by omega, e7, p10, eB⟩
          all_goals rfl
         exact AllReadyH.nil
        exact AllReadyH.nil
       exact AllReadyH.nil
      refine AllReadyH.cons (o := _) rfl (fun K hK => ?_) ?_
      ·refine step_alloc2 7 rfl rfl rfl ?_
       intro g7 w7 hg7 p7 hb7
       (try change wr.heap.size ≤ g7 at hg7)
       have l7 := p7.lt
       have s7 := hb7.size; (try change wr.heap.size ≤ _ at s7)
       refine hko hK (by (repeat' (first | with_reducible (first | exact hbox | refine Box8.drw ?_ | refine Box8.keep ?_ hb5 | refine Box8.keep ?_ hb6 | refine Box8.keep ?_ hb7 | refine Box8.keep ?_ hb8 | refine Box8.turned ?_ t9 ?_ | refine Box8.turned ?_ t10 ?_) | omega))) (fun _ => ?_)
       clear hK K
       refine wpAnyH_ready (rs := [7]) (by kernel_rfl) (by simp) ?_
       refine AllReadyH.cons (o := _) rfl (fun K hK => ?_) ?_
       ·go_simp
        refine (H1.out _).mono ?_
        rintro e w6 ⟨rfl, hb6⟩
        (try go_wp2_with fail)
        have s6 := hb6.size; (try change wr.heap.size ≤ _ at s6)
        refine hko hK (by (repeat' (first | with_reducible (first | exact hbox | refine Box8.drw ?_ | refine Box8.keep ?_ hb5 | refine Box8.keep ?_ hb6 | refine Box8.keep ?_ hb7 | refine Box8.keep ?_ hb8 | refine Box8.turned ?_ t9 ?_ | refine Box8.turned ?_ t10 ?_) | omega))) (fun _ => ?_)
        clear hK K
        refine wpAnyH_ready (rs := [10]) (by kernel_rfl) (by simp) ?_
        refine AllReadyH.cons (o := _) rfl (fun K hK => ?_) ?_
        ·refine step_store2 rfl (.tmp 7) (.tmp 15) rfl rfl rfl rfl rfl (g := g7) (u := .int .i64 0) (v := .int .i64 0) (by (repeat' (first | with_reducible (first | exact p7 | exact p8 | refine Two.keep ?_ hb5 | refine Two.keep ?_ hb6 | refine Two.keep ?_ hb7 | refine Two.keep ?_ hb8)))) ?_
         intro w9 p9 t9
         have s9 := t9.size
         refine hko hK (by (repeat' (first | with_reducible (first | exact hbox | refine Box8.drw ?_ | refine Box8.keep ?_ hb5 | refine Box8.keep ?_ hb6 | refine Box8.keep ?_ hb7 | refine Box8.keep ?_ hb8 | refine Box8.turned ?_ t9 ?_ | refine Box8.turned ?_ t10 ?_) | omega))) (fun _ => ?_)
         clear hK K
         refine wpAnyH_ready (rs := [11]) (by kernel_rfl) (by simp) ?_
         refine AllReadyH.cons (o := _) rfl (fun K hK => ?_) ?_
         ·refine step_store2 rfl (.tmp 8) (.tmp 19) rfl rfl rfl rfl rfl (g := g8) (u := .int .i64 0) (v := .int .i64 0) (by (refine Two.of_heap ?_ (t9.other g8 (by omega)); (repeat' (first | with_reducible (first | exact p7 | exact p8 | refine Two.keep ?_ hb5 | refine Two.keep ?_ hb6 | refine Two.keep ?_ hb7 | refine Two.keep ?_ hb8))))) ?_
          intro w10 p10 t10
          have s10 := t10.size
          refine hko hK (by (repeat' (first | with_reducible (first | exact hbox | refine Box8.drw ?_ | refine Box8.keep ?_ hb5 | refine Box8.keep ?_ hb6 | refine Box8.keep ?_ hb7 | refine Box8.keep ?_ hb8 | refine Box8.turned ?_ t9 ?_ | refine Box8.turned ?_ t10 ?_) | omega))) (fun _ => ?_)
          clear hK K
          refine wpAnyH_done (by kernel_rfl) ?_ _
          have e7 := p9.of_heap (t10.other g7 (by omega))
          have eB : Below wr.heap.size wr w10 := by (repeat' (first | with_reducible exact Below.refl _ _ | exact Nat.le_refl _ | with_reducible (first | refine Below.drew ?_ | refine Turned.below t10 ?_ ?_ | refine Turned.below t9 ?_ ?_ | refine Below.trans ?_ (hb5.mono ?_) | refine Below.trans ?_ (hb6.mono ?_) | refine Below.trans ?_ (hb7.mono ?_) | refine Below.trans ?_ (hb8.mono ?_)) | omega))
          clear hb5 hb6 hb7 hb8 t9 t10 p9 p7 p8
          go_wp2_with fail
          go_meet
          refine ⟨g7, g8, ?_, ?_, by omega, by omega, by omega, e7, p10, eB⟩
          all_goals rfl
         exact AllReadyH.nil
        exact AllReadyH.nil
       exact AllReadyH.nil
      exact AllReadyH.nil
     exact AllReadyH.nil
    refine AllReadyH.cons (o := _) rfl (fun K hK => ?_) ?_
    ·refine step_alloc2 7 rfl rfl rfl ?_
     intro g7 w7 hg7 p7 hb7
     (try change wr.heap.size ≤ g7 at hg7)
     have l7 := p7.lt
     have s7 := hb7.size; (try change wr.heap.size ≤ _ at s7)
     refine hko hK (by (repeat' (first | with_reducible (first | exact hbox | refine Box8.drw ?_ | refine Box8.keep ?_ hb5 | refine Box8.keep ?_ hb6 | refine Box8.keep ?_ hb7 | refine Box8.keep ?_ hb8 | refine Box8.turned ?_ t9 ?_ | refine Box8.turned ?_ t10 ?_) | omega))) (fun _ => ?_)
     clear hK K
     refine wpAnyH_ready (rs := [3, 9]) (by kernel_rfl) (by simp) ?_
     refine AllReadyH.cons (o := _) rfl (fun K hK => ?_) ?_
     ·go_simp
      refine (H0.out _).mono ?_
      rintro e w5 ⟨rfl, hb5⟩
      (try go_wp2_with fail)
      have s5 := hb5.size; (try change wr.heap.size ≤ _ at s5)
      refine hko hK (by (repeat' (first | with_reducible (first | exact hbox | refine Box8.drw ?_ | refine Box8.keep ?_ hb5 | refine Box8.keep ?_ hb6 | refine Box8.keep ?_ hb7 | refine Box8.keep ?_ hb8 | refine Box8.turned ?_ t9 ?_ | refine Box8.turned ?_ t10 ?_) | omega))) (fun _ => ?_)
      clear hK K
      refine wpAnyH_ready (rs := [7, 9]) (by kernel_rfl) (by simp) ?_
      refine AllReadyH.cons (o := _) rfl (fun K hK => ?_) ?_
      ·go_simp
       refine (H1.out _).mono ?_
       rintro e w6 ⟨rfl, hb6⟩
       (try go_wp2_with fail)
       have s6 := hb6.size; (try change wr.heap.size ≤ _ at s6)
       refine hko hK (by (repeat' (first | with_reducible (first | exact hbox | refine Box8.drw ?_ | refine Box8.keep ?_ hb5 | refine Box8.keep ?_ hb6 | refine Box8.keep ?_ hb7 | refine Box8.keep ?_ hb8 | refine Box8.turned ?_ t9 ?_ | refine Box8.turned ?_ t10 ?_) | omega))) (fun _ => ?_)
       clear hK K
       refine wpAnyH_ready (rs := [9]) (by kernel_rfl) (by simp) ?_
       refine AllReadyH.cons (o := _) rfl (fun K hK => ?_) ?_
       ·refine step_alloc2 8 rfl rfl rfl ?_
        intro g8 w8 hg8 p8 hb8
        (try change wr.heap.size ≤ g8 at hg8)
        have l8 := p8.lt
        have s8 := hb8.size; (try change wr.heap.size ≤ _ at s8)
        refine hko hK (by (repeat' (first | with_reducible (first | exact hbox | refine Box8.drw ?_ | refine Box8.keep ?_ hb5 | refine Box8.keep ?_ hb6 | refine Box8.keep ?_ hb7 | refine Box8.keep ?_ hb8 | refine Box8.turned ?_ t9 ?_ | refine Box8.turned ?_ t10 ?_) | omega))) (fun _ => ?_)
        clear hK K
        refine wpAnyH_ready (rs := [10]) (by kernel_rfl) (by simp) ?_
        refine AllReadyH.cons (o := _) rfl (fun K hK => ?_) ?_
        ·refine step_store2 rfl (.tmp 7) (.tmp 15) rfl rfl rfl rfl rfl (g := g7) (u := .int .i64 0) (v := .int .i64 0) (by (repeat' (first | with_reducible (first | exact p7 | exact p8 | refine Two.keep ?_ hb5 | refine Two.keep ?_ hb6 | refine Two.keep ?_ hb7 | refine Two.keep ?_ hb8)))) ?_
         intro w9 p9 t9
         have s9 := t9.size
         refine hko hK (by (repeat' (first | with_reducible (first | exact hbox | refine Box8.drw ?_ | refine Box8.keep ?_ hb5 | refine Box8.keep ?_ hb6 | refine Box8.keep ?_ hb7 | refine Box8.keep ?_ hb8 | refine Box8.turned ?_ t9 ?_ | refine Box8.turned ?_ t10 ?_) | omega))) (fun _ => ?_)
         clear hK K
         refine wpAnyH_ready (rs := [11]) (by kernel_rfl) (by simp) ?_
         refine AllReadyH.cons (o := _) rfl (fun K hK => ?_) ?_
         ·refine step_store2 rfl (.tmp 8) (.tmp 19) rfl rfl rfl rfl rfl (g := g8) (u := .int .i64 0) (v := .int .i64 0) (by (refine Two.of_heap ?_ (t9.other g8 (by omega)); (repeat' (first | with_reducible (first | exact p7 | exact p8 | refine Two.keep ?_ hb5 | refine Two.keep ?_ hb6 | refine Two.keep ?_ hb7 | refine Two.keep ?_ hb8))))) ?_
          intro w10 p10 t10
          have s10 := t10.size
          refine hko hK (by (repeat' (first | with_reducible (first | exact hbox | refine Box8.drw ?_ | refine Box8.keep ?_ hb5 | refine Box8.keep ?_ hb6 | refine Box8.keep ?_ hb7 | refine Box8.keep ?_ hb8 | refine Box8.turned ?_ t9 ?_ | refine Box8.turned ?_ t10 ?_) | omega))) (fun _ => ?_)
          clear hK K
          refine wpAnyH_done (by kernel_rfl) ?_ _
          have e7 := p9.of_heap (t10.other g7 (by omega))
          have eB : Below wr.heap.size wr w10 := by (repeat' (first | with_reducible exact Below.refl _ _ | exact Nat.le_refl _ | with_reducible (first | refine Below.drew ?_ | refine Turned.below t10 ?_ ?_ | refine Turned.below t9 ?_ ?_ | refine Below.trans ?_ (hb5.mono ?_) | refine Below.trans ?_ (hb6.mono ?_) | refine Below.trans ?_ (hb7.mono ?_) | refine Below.trans ?_ (hb8.mono ?_)) | omega))
          clear hb5 hb6 hb7 hb8 t9 t10 p9 p7 p8
          go_wp2_with fail
          go_meet
          refine ⟨g7, g8, ?_, ?_, by omega, by omega, by omega, e7, p10, eB⟩
          all_goals rfl
         exact AllReadyH.nil
        exact AllReadyH.nil
       exact AllReadyH.nil
      refine AllReadyH.cons (o := _) rfl (fun K hK => ?_) ?_
      ·refine step_alloc2 8 rfl rfl rfl ?_
       intro g8 w8 hg8 p8 hb8
       (try change wr.heap.size ≤ g8 at hg8)
       have l8 := p8.lt
       have s8 := hb8.size; (try change wr.heap.size ≤ _ at s8)
       refine hko hK (by (repeat' (first | with_reducible (first | exact hbox | refine Box8.drw ?_ | refine Box8.keep ?_ hb5 | refine Box8.keep ?_ hb6 | refine Box8.keep ?_ hb7 | refine Box8.keep ?_ hb8 | refine Box8.turned ?_ t9 ?_ | refine Box8.turned ?_ t10 ?_) | omega))) (fun _ => ?_)
       clear hK K
       refine wpAnyH_ready (rs := [7]) (by kernel_rfl) (by simp) ?_
       refine AllReadyH.cons (o := _) rfl (fun K hK => ?_) ?_
       ·go_simp
        refine (H1.out _).mono ?_
        rintro e w6 ⟨rfl, hb6⟩
        (try go_wp2_with fail)
        have s6 := hb6.size; (try change wr.heap.size ≤ _ at s6)
        refine hko hK (by (repeat' (first | with_reducible (first | exact hbox | refine Box8.drw ?_ | refine Box8.keep ?_ hb5 | refine Box8.keep ?_ hb6 | refine Box8.keep ?_ hb7 | refine Box8.keep ?_ hb8 | refine Box8.turned ?_ t9 ?_ | refine Box8.turned ?_ t10 ?_) | omega))) (fun _ => ?_)
        clear hK K
        refine wpAnyH_ready (rs := [10]) (by kernel_rfl) (by simp) ?_
        refine AllReadyH.cons (o := _) rfl (fun K hK => ?_) ?_
        ·refine step_store2 rfl (.tmp 7) (.tmp 15) rfl rfl rfl rfl rfl (g := g7) (u := .int .i64 0) (v := .int .i64 0) (by (repeat' (first | with_reducible (first | exact p7 | exact p8 | refine Two.keep ?_ hb5 | refine Two.keep ?_ hb6 | refine Two.keep ?_ hb7 | refine Two.keep ?_ hb8)))) ?_
         intro w9 p9 t9
         have s9 := t9.size
         refine hko hK (by (repeat' (first | with_reducible (first | exact hbox | refine Box8.drw ?_ | refine Box8.keep ?_ hb5 | refine Box8.keep ?_ hb6 | refine Box8.keep ?_ hb7 | refine Box8.keep ?_ hb8 | refine Box8.turned ?_ t9 ?_ | refine Box8.turned ?_ t10 ?_) | omega))) (fun _ => ?_)
         clear hK K
         refine wpAnyH_ready (rs := [11]) (by kernel_rfl) (by simp) ?_
         refine AllReadyH.cons (o := _) rfl (fun K hK => ?_) ?_
         ·refine step_store2 rfl (.tmp 8) (.tmp 19) rfl rfl rfl rfl rfl (g := g8) (u := .int .i64 0) (v := .int .i64 0) (by (refine Two.of_heap ?_ (t9.other g8 (by omega)); (repeat' (first | with_reducible (first | exact p7 | exact p8 | refine Two.keep ?_ hb5 | refine Two.keep ?_ hb6 | refine Two.keep ?_ hb7 | refine Two.keep ?_ hb8))))) ?_
          intro w10 p10 t10
          have s10 := t10.size
          refine hko hK (by (repeat' (first | with_reducible (first | exact hbox | refine Box8.drw ?_ | refine Box8.keep ?_ hb5 | refine Box8.keep ?_ hb6 | refine Box8.keep ?_ hb7 | refine Box8.keep ?_ hb8 | refine Box8.turned ?_ t9 ?_ | refine Box8.turned ?_ t10 ?_) | omega))) (fun _ => ?_)
          clear hK K
          refine wpAnyH_done (by kernel_rfl) ?_ _
          have e7 := p9.of_heap (t10.other g7 (by omega))
          have eB : Below wr.heap.size wr w10 := by (repeat' (first | with_reducible exact Below.refl _ _ | exact Nat.le_refl _ | with_reducible (first | refine Below.drew ?_ | refine Turned.below t10 ?_ ?_ | refine Turned.below t9 ?_ ?_ | refine Below.trans ?_ (hb5.mono ?_) | refine Below.trans ?_ (hb6.mono ?_) | refine Below.trans ?_ (hb7.mono ?_) | refine Below.trans ?_ (hb8.mono ?_)) | omega))
          clear hb5 hb6 hb7 hb8 t9 t10 p9 p7 p8
          go_wp2_with fail
          go_meet
          refine ⟨g7, g8, ?_, ?_, by omega, by omega, by omega, e7, p10, eB⟩
          all_goals rfl
         exact AllReadyH.nil
        exact AllReadyH.nil
       exact AllReadyH.nil
      exact AllReadyH.nil
     refine AllReadyH.cons (o := _) rfl (fun K hK => ?_) ?_
     ·refine step_alloc2 8 rfl rfl rfl ?_
      intro g8 w8 hg8 p8 hb8
      (try change wr.heap.size ≤ g8 at hg8)
      have l8 := p8.lt
      have s8 := hb8.size; (try change wr.heap.size ≤ _ at s8)
      refine hko hK (by (repeat' (first | with_reducible (first | exact hbox | refine Box8.drw ?_ | refine Box8.keep ?_ hb5 | refine Box8.keep ?_ hb6 | refine Box8.keep ?_ hb7 | refine Box8.keep ?_ hb8 | refine Box8.turned ?_ t9 ?_ | refine Box8.turned ?_ t10 ?_) | omega))) (fun _ => ?_)
      clear hK K
      refine wpAnyH_ready (rs := [3]) (by kernel_rfl) (by simp) ?_
      refine AllReadyH.cons (o := _) rfl (fun K hK => ?_) ?_
      ·go_simp
       refine (H0.out _).mono ?_
       rintro e w5 ⟨rfl, hb5⟩
       (try go_wp2_with fail)
       have s5 := hb5.size; (try change wr.heap.size ≤ _ at s5)
       refine hko hK (by (repeat' (first | with_reducible (first | exact hbox | refine Box8.drw ?_ | refine Box8.keep ?_ hb5 | refine Box8.keep ?_ hb6 | refine Box8.keep ?_ hb7 | refine Box8.keep ?_ hb8 | refine Box8.turned ?_ t9 ?_ | refine Box8.turned ?_ t10 ?_) | omega))) (fun _ => ?_)
       clear hK K
       refine wpAnyH_ready (rs := [7]) (by kernel_rfl) (by simp) ?_
       refine AllReadyH.cons (o := _) rfl (fun K hK => ?_) ?_
       ·go_simp
        refine (H1.out _).mono ?_
        rintro e w6 ⟨rfl, hb6⟩
        (try go_wp2_with fail)
        have s6 := hb6.size; (try change wr.heap.size ≤ _ at s6)
        refine hko hK (by (repeat' (first | with_reducible (first | exact hbox | refine Box8.drw ?_ | refine Box8.keep ?_ hb5 | refine Box8.keep ?_ hb6 | refine Box8.keep ?_ hb7 | refine Box8.keep ?_ hb8 | refine Box8.turned ?_ t9 ?_ | refine Box8.turned ?_ t10 ?_) | omega))) (fun _ => ?_)
        clear hK K
        refine wpAnyH_ready (rs := [10]) (by kernel_rfl) (by simp) ?_
        refine AllReadyH.cons (o := _) rfl (fun K hK => ?_) ?_
        ·refine step_store2 rfl (.tmp 7) (.tmp 15) rfl rfl rfl rfl rfl (g := g7) (u := .int .i64 0) (v := .int .i64 0) (by (repeat' (first | with_reducible (first | exact p7 | exact p8 | refine Two.keep ?_ hb5 | refine Two.keep ?_ hb6 | refine Two.keep ?_ hb7 | refine Two.keep ?_ hb8)))) ?_
         intro w9 p9 t9
         have s9 := t9.size
         refine hko hK (by (repeat' (first | with_reducible (first | exact hbox | refine Box8.drw ?_ | refine Box8.keep ?_ hb5 | refine Box8.keep ?_ hb6 | refine Box8.keep ?_ hb7 | refine Box8.keep ?_ hb8 | refine Box8.turned ?_ t9 ?_ | refine Box8.turned ?_ t10 ?_) | omega))) (fun _ => ?_)
         clear hK K
         refine wpAnyH_ready (rs := [11]) (by kernel_rfl) (by simp) ?_
         refine AllReadyH.cons (o := _) rfl (fun K hK => ?_) ?_
         ·refine step_store2 rfl (.tmp 8) (.tmp 19) rfl rfl rfl rfl rfl (g := g8) (u := .int .i64 0) (v := .int .i64 0) (by (refine Two.of_heap ?_ (t9.other g8 (by omega)); (repeat' (first | with_reducible (first | exact p7 | exact p8 | refine Two.keep ?_ hb5 | refine Two.keep ?_ hb6 | refine Two.keep ?_ hb7 | refine Two.keep ?_ hb8))))) ?_
          intro w10 p10 t10
          have s10 := t10.size
          refine hko hK (by (repeat' (first | with_reducible (first | exact hbox | refine Box8.drw ?_ | refine Box8.keep ?_ hb5 | refine Box8.keep ?_ hb6 | refine Box8.keep ?_ hb7 | refine Box8.keep ?_ hb8 | refine Box8.turned ?_ t9 ?_ | refine Box8.turned ?_ t10 ?_) | omega))) (fun _ => ?_)
          clear hK K
          refine wpAnyH_done (by kernel_rfl) ?_ _
          have e7 := p9.of_heap (t10.other g7 (by omega))
          have eB : Below wr.heap.size wr w10 := by (repeat' (first | with_reducible exact Below.refl _ _ | exact Nat.le_refl _ | with_reducible (first | refine Below.drew ?_ | refine Turned.below t10 ?_ ?_ | refine Turned.below t9 ?_ ?_ | refine Below.trans ?_ (hb5.mono ?_) | refine Below.trans ?_ (hb6.mono ?_) | refine Below.trans ?_ (hb7.mono ?_) | refine Below.trans ?_ (hb8.mono ?_)) | omega))
          clear hb5 hb6 hb7 hb8 t9 t10 p9 p7 p8
          go_wp2_with fail
          go_meet
          refine ⟨g7, g8, ?_, ?_, by omega, by omega, by omega, e7, p10, eB⟩
          all_goals rfl
         exact AllReadyH.nil
        exact AllReadyH.nil
       exact AllReadyH.nil
      exact AllReadyH.nil
     exact AllReadyH.nil
    refine AllReadyH.cons (o := _) rfl (fun K hK => ?_) ?_
    ·refine step_alloc2 8 rfl rfl rfl ?_
     intro g8 w8 hg8 p8 hb8
     (try change wr.heap.size ≤ g8 at hg8)
     have l8 := p8.lt
     have s8 := hb8.size; (try change wr.heap.size ≤ _ at s8)
     refine hko hK (by (repeat' (first | with_reducible (first | exact hbox | refine Box8.drw ?_ | refine Box8.keep ?_ hb5 | refine Box8.keep ?_ hb6 | refine Box8.keep ?_ hb7 | refine Box8.keep ?_ hb8 | refine Box8.turned ?_ t9 ?_ | refine Box8.turned ?_ t10 ?_) | omega))) (fun _ => ?_)
     clear hK K
     refine wpAnyH_ready (rs := [3, 8]) (by kernel_rfl) (by simp) ?_
     refine AllReadyH.cons (o := _) rfl (fun K hK => ?_) ?_
     ·go_simp
      refine (H0.out _).mono ?_
      rintro e w5 ⟨rfl, hb5⟩
      (try go_wp2_with fail)
      have s5 := hb5.size; (try change wr.heap.size ≤ _ at s5)
      refine hko hK (by (repeat' (first | with_reducible (first | exact hbox | refine Box8.drw ?_ | refine Box8.keep ?_ hb5 | refine Box8.keep ?_ hb6 | refine Box8.keep ?_ hb7 | refine Box8.keep ?_ hb8 | refine Box8.turned ?_ t9 ?_ | refine Box8.turned ?_ t10 ?_) | omega))) (fun _ => ?_)
      clear hK K
      refine wpAnyH_ready (rs := [7, 8]) (by kernel_rfl) (by simp) ?_
      refine AllReadyH.cons (o := _) rfl (fun K hK => ?_) ?_
      ·go_simp
       refine (H1.out _).mono ?_
       rintro e w6 ⟨rfl, hb6⟩
       (try go_wp2_with fail)
       have s6 := hb6.size; (try change wr.heap.size ≤ _ at s6)
       refine hko hK (by (repeat' (first | with_reducible (first | exact hbox | refine Box8.drw ?_ | refine Box8.keep ?_ hb5 | refine Box8.keep ?_ hb6 | refine Box8.keep ?_ hb7 | refine Box8.keep ?_ hb8 | refine Box8.turned ?_ t9 ?_ | refine Box8.turned ?_ t10 ?_) | omega))) (fun _ => ?_)
       clear hK K
       refine wpAnyH_ready (rs := [8]) (by kernel_rfl) (by simp) ?_
       refine AllReadyH.cons (o := _) rfl (fun K hK => ?_) ?_
       ·refine step_alloc2 7 rfl rfl rfl ?_
        intro g7 w7 hg7 p7 hb7
        (try change wr.heap.size ≤ g7 at hg7)
        have l7 := p7.lt
        have s7 := hb7.size; (try change wr.heap.size ≤ _ at s7)
        refine hko hK (by (repeat' (first | with_reducible (first | exact hbox | refine Box8.drw ?_ | refine Box8.keep ?_ hb5 | refine Box8.keep ?_ hb6 | refine Box8.keep ?_ hb7 | refine Box8.keep ?_ hb8 | refine Box8.turned ?_ t9 ?_ | refine Box8.turned ?_ t10 ?_) | omega))) (fun _ => ?_)
        clear hK K
        refine wpAnyH_ready (rs := [10]) (by kernel_rfl) (by simp) ?_
        refine AllReadyH.cons (o := _) rfl (fun K hK => ?_) ?_
        ·refine step_store2 rfl (.tmp 7) (.tmp 15) rfl rfl rfl rfl rfl (g := g7) (u := .int .i64 0) (v := .int .i64 0) (by (repeat' (first | with_reducible (first | exact p7 | exact p8 | refine Two.keep ?_ hb5 | refine Two.keep ?_ hb6 | refine Two.keep ?_ hb7 | refine Two.keep ?_ hb8)))) ?_
         intro w9 p9 t9
         have s9 := t9.size
         refine hko hK (by (repeat' (first | with_reducible (first | exact hbox | refine Box8.drw ?_ | refine Box8.keep ?_ hb5 | refine Box8.keep ?_ hb6 | refine Box8.keep ?_ hb7 | refine Box8.keep ?_ hb8 | refine Box8.turned ?_ t9 ?_ | refine Box8.turned ?_ t10 ?_) | omega))) (fun _ => ?_)
         clear hK K
         refine wpAnyH_ready (rs := [11]) (by kernel_rfl) (by simp) ?_
         refine AllReadyH.cons (o := _) rfl (fun K hK => ?_) ?_
         ·refine step_store2 rfl (.tmp 8) (.tmp 19) rfl rfl rfl rfl rfl (g := g8) (u := .int .i64 0) (v := .int .i64 0) (by (refine Two.of_heap ?_ (t9.other g8 (by omega)); (repeat' (first | with_reducible (first | exact p7 | exact p8 | refine Two.keep ?_ hb5 | refine Two.keep ?_ hb6 | refine Two.keep ?_ hb7 | refine Two.keep ?_ hb8))))) ?_
          intro w10 p10 t10
          have s10 := t10.size
          refine hko hK (by (repeat' (first | with_reducible (first | exact hbox | refine Box8.drw ?_ | refine Box8.keep ?_ hb5 | refine Box8.keep ?_ hb6 | refine Box8.keep ?_ hb7 | refine Box8.keep ?_ hb8 | refine Box8.turned ?_ t9 ?_ | refine Box8.turned ?_ t10 ?_) | omega))) (fun _ => ?_)
          clear hK K
          refine wpAnyH_done (by kernel_rfl) ?_ _
          have e7 := p9.of_heap (t10.other g7 (by omega))
          have eB : Below wr.heap.size wr w10 := by (repeat' (first | with_reducible exact Below.refl _ _ | exact Nat.le_refl _ | with_reducible (first | refine Below.drew ?_ | refine Turned.below t10 ?_ ?_ | refine Turned.below t9 ?_ ?_ | refine Below.trans ?_ (hb5.mono ?_) | refine Below.trans ?_ (hb6.mono ?_) | refine Below.trans ?_ (hb7.mono ?_) | refine Below.trans ?_ (hb8.mono ?_)) | omega))
          clear hb5 hb6 hb7 hb8 t9 t10 p9 p7 p8
          go_wp2_with fail
          go_meet
          refine ⟨g7, g8, ?_, ?_, by omega, by omega, by omega, e7, p10, eB⟩
          all_goals rfl
         exact AllReadyH.nil
        exact AllReadyH.nil
       exact AllReadyH.nil
      refine AllReadyH.cons (o := _) rfl (fun K hK => ?_) ?_
      ·refine step_alloc2 7 rfl rfl rfl ?_
       intro g7 w7 hg7 p7 hb7
       (try change wr.heap.size ≤ g7 at hg7)
       have l7 := p7.lt
       have s7 := hb7.size; (try change wr.heap.size ≤ _ at s7)
       refine hko hK (by (repeat' (first | with_reducible (first | exact hbox | refine Box8.drw ?_ | refine Box8.keep ?_ hb5 | refine Box8.keep ?_ hb6 | refine Box8.keep ?_ hb7 | refine Box8.keep ?_ hb8 | refine Box8.turned ?_ t9 ?_ | refine Box8.turned ?_ t10 ?_) | omega))) (fun _ => ?_)
       clear hK K
       refine wpAnyH_ready (rs := [7]) (by kernel_rfl) (by simp) ?_
       refine AllReadyH.cons (o := _) rfl (fun K hK => ?_) ?_
       ·go_simp
        refine (H1.out _).mono ?_
        rintro e w6 ⟨rfl, hb6⟩
        (try go_wp2_with fail)
        have s6 := hb6.size; (try change wr.heap.size ≤ _ at s6)
        refine hko hK (by (repeat' (first | with_reducible (first | exact hbox | refine Box8.drw ?_ | refine Box8.keep ?_ hb5 | refine Box8.keep ?_ hb6 | refine Box8.keep ?_ hb7 | refine Box8.keep ?_ hb8 | refine Box8.turned ?_ t9 ?_ | refine Box8.turned ?_ t10 ?_) | omega))) (fun _ => ?_)
        clear hK K
        refine wpAnyH_ready (rs := [10]) (by kernel_rfl) (by simp) ?_
        refine AllReadyH.cons (o := _) rfl (fun K hK => ?_) ?_
        ·refine step_store2 rfl (.tmp 7) (.tmp 15) rfl rfl rfl rfl rfl (g := g7) (u := .int .i64 0) (v := .int .i64 0) (by (repeat' (first | with_reducible (first | exact p7 | exact p8 | refine Two.keep ?_ hb5 | refine Two.keep ?_ hb6 | refine Two.keep ?_ hb7 | refine Two.keep ?_ hb8)))) ?_
         intro w9 p9 t9
         have s9 := t9.size
         refine hko hK (by (repeat' (first | with_reducible (first | exact hbox | refine Box8.drw ?_ | refine Box8.keep ?_ hb5 | refine Box8.keep ?_ hb6 | refine Box8.keep ?_ hb7 | refine Box8.keep ?_ hb8 | refine Box8.turned ?_ t9 ?_ | refine Box8.turned ?_ t10 ?_) | omega))) (fun _ => ?_)
         clear hK K
         refine wpAnyH_ready (rs := [11]) (by kernel_rfl) (by simp) ?_
         refine AllReadyH.cons (o := _) rfl (fun K hK => ?_) ?_
         ·refine step_store2 rfl (.tmp 8) (.tmp 19) rfl rfl rfl rfl rfl (g := g8) (u := .int .i64 0) (v := .int .i64 0) (by (refine Two.of_heap ?_ (t9.other g8 (by omega)); (repeat' (first | with_reducible (first | exact p7 | exact p8 | refine Two.keep ?_ hb5 | refine Two.keep ?_ hb6 | refine Two.keep ?_ hb7 | refine Two.keep ?_ hb8))))) ?_
          intro w10 p10 t10
          have s10 := t10.size
          refine hko hK (by (repeat' (first | with_reducible (first | exact hbox | refine Box8.drw ?_ | refine Box8.keep ?_ hb5 | refine Box8.keep ?_ hb6 | refine Box8.keep ?_ hb7 | refine Box8.keep ?_ hb8 | refine Box8.turned ?_ t9 ?_ | refine Box8.turned ?_ t10 ?_) | omega))) (fun _ => ?_)
          clear hK K
          refine wpAnyH_done (by kernel_rfl) ?_ _
          have e7 := p9.of_heap (t10.other g7 (by omega))
          have eB : Below wr.heap.size wr w10 := by (repeat' (first | with_reducible exact Below.refl _ _ | exact Nat.le_refl _ | with_reducible (first | refine Below.drew ?_ | refine Turned.below t10 ?_ ?_ | refine Turned.below t9 ?_ ?_ | refine Below.trans ?_ (hb5.mono ?_) | refine Below.trans ?_ (hb6.mono ?_) | refine Below.trans ?_ (hb7.mono ?_) | refine Below.trans ?_ (hb8.mono ?_)) | omega))
          clear hb5 hb6 hb7 hb8 t9 t10 p9 p7 p8
          go_wp2_with fail
          go_meet
          refine ⟨g7, g8, ?_, ?_, by omega, by omega, by omega, e7, p10, eB⟩
          all_goals rfl
         exact AllReadyH.nil
        exact AllReadyH.nil
       exact AllReadyH.nil
      exact AllReadyH.nil
     refine AllReadyH.cons (o := _) rfl (fun K hK => ?_) ?_
     ·refine step_alloc2 7 rfl rfl rfl ?_
      intro g7 w7 hg7 p7 hb7
      (try change wr.heap.size ≤ g7 at hg7)
      have l7 := p7.lt
      have s7 := hb7.size; (try change wr.heap.size ≤ _ at s7)
      refine hko hK (by (repeat' (first | with_reducible (first | exact hbox | refine Box8.drw ?_ | refine Box8.keep ?_ hb5 | refine Box8.keep ?_ hb6 | refine Box8.keep ?_ hb7 | refine Box8.keep ?_ hb8 | refine Box8.turned ?_ t9 ?_ | refine Box8.turned ?_ t10 ?_) | omega))) (fun _ => ?_)
      clear hK K
      refine wpAnyH_ready (rs := [3]) (by kernel_rfl) (by simp) ?_
      refine AllReadyH.cons (o := _) rfl (fun K hK => ?_) ?_
      ·go_simp
       refine (H0.out _).mono ?_
       rintro e w5 ⟨rfl, hb5⟩
       (try go_wp2_with fail)
       have s5 := hb5.size; (try change wr.heap.size ≤ _ at s5)
       refine hko hK (by (repeat' (first | with_reducible (first | exact hbox | refine Box8.drw ?_ | refine Box8.keep ?_ hb5 | refine Box8.keep ?_ hb6 | refine Box8.keep ?_ hb7 | refine Box8.keep ?_ hb8 | refine Box8.turned ?_ t9 ?_ | refine Box8.turned ?_ t10 ?_) | omega))) (fun _ => ?_)
       clear hK K
       refine wpAnyH_ready (rs := [7]) (by kernel_rfl) (by simp) ?_
       refine AllReadyH.cons (o := _) rfl (fun K hK => ?_) ?_
       ·go_simp
        refine (H1.out _).mono ?_
        rintro e w6 ⟨rfl, hb6⟩
        (try go_wp2_with fail)
        have s6 := hb6.size; (try change wr.heap.size ≤ _ at s6)
        refine hko hK (by (repeat' (first | with_reducible (first | exact hbox | refine Box8.drw ?_ | refine Box8.keep ?_ hb5 | refine Box8.keep ?_ hb6 | refine Box8.keep ?_ hb7 | refine Box8.keep ?_ hb8 | refine Box8.turned ?_ t9 ?_ | refine Box8.turned ?_ t10 ?_) | omega))) (fun _ => ?_)
        clear hK K
        refine wpAnyH_ready (rs := [10]) (by kernel_rfl) (by simp) ?_
        refine AllReadyH.cons (o := _) rfl (fun K hK => ?_) ?_
        ·refine step_store2 rfl (.tmp 7) (.tmp 15) rfl rfl rfl rfl rfl (g := g7) (u := .int .i64 0) (v := .int .i64 0) (by (repeat' (first | with_reducible (first | exact p7 | exact p8 | refine Two.keep ?_ hb5 | refine Two.keep ?_ hb6 | refine Two.keep ?_ hb7 | refine Two.keep ?_ hb8)))) ?_
         intro w9 p9 t9
         have s9 := t9.size
         refine hko hK (by (repeat' (first | with_reducible (first | exact hbox | refine Box8.drw ?_ | refine Box8.keep ?_ hb5 | refine Box8.keep ?_ hb6 | refine Box8.keep ?_ hb7 | refine Box8.keep ?_ hb8 | refine Box8.turned ?_ t9 ?_ | refine Box8.turned ?_ t10 ?_) | omega))) (fun _ => ?_)
         clear hK K
         refine wpAnyH_ready (rs := [11]) (by kernel_rfl) (by simp) ?_
         refine AllReadyH.cons (o := _) rfl (fun K hK => ?_) ?_
         ·refine step_store2 rfl (.tmp 8) (.tmp 19) rfl rfl rfl rfl rfl (g := g8) (u := .int .i64 0) (v := .int .i64 0) (by (refine Two.of_heap ?_ (t9.other g8 (by omega)); (repeat' (first | with_reducible (first | exact p7 | exact p8 | refine Two.keep ?_ hb5 | refine Two.keep ?_ hb6 | refine Two.keep ?_ hb7 | refine Two.keep ?_ hb8))))) ?_
          intro w10 p10 t10
          have s10 := t10.size
          refine hko hK (by (repeat' (first | with_reducible (first | exact hbox | refine Box8.drw ?_ | refine Box8.keep ?_ hb5 | refine Box8.keep ?_ hb6 | refine Box8.keep ?_ hb7 | refine Box8.keep ?_ hb8 | refine Box8.turned ?_ t9 ?_ | refine Box8.turned ?_ t10 ?_) | omega))) (fun _ => ?_)
          clear hK K
          refine wpAnyH_done (by kernel_rfl) ?_ _
          have e7 := p9.of_heap (t10.other g7 (by omega))
          have eB : Below wr.heap.size wr w10 := by (repeat' (first | with_reducible exact Below.refl _ _ | exact Nat.le_refl _ | with_reducible (first | refine Below.drew ?_ | refine Turned.below t10 ?_ ?_ | refine Turned.below t9 ?_ ?_ | refine Below.trans ?_ (hb5.mono ?_) | refine Below.trans ?_ (hb6.mono ?_) | refine Below.trans ?_ (hb7.mono ?_) | refine Below.trans ?_ (hb8.mono ?_)) | omega))
          clear hb5 hb6 hb7 hb8 t9 t10 p9 p7 p8
          go_wp2_with fail
          go_meet
          refine ⟨g7, g8, ?_, ?_, by omega, by omega, by omega, e7, p10, eB⟩
          all_goals rfl
         exact AllReadyH.nil
        exact AllReadyH.nil
       exact AllReadyH.nil
      exact AllReadyH.nil
     exact AllReadyH.nil
    exact AllReadyH.nil

   case rest =>
    obtain ⟨g7, g8, rfl, rfl, hne, hl7, hl8, p7, p8, eB⟩ := hcut
    obtain ⟨c70, c71, f70, f71⟩ := p7
    obtain ⟨c80, c81, f80, f81⟩ := p8
    have HB := Lib.hid hbox
    clear H0 H1 Hbr hbox
    have ho := hout.kept eB
    have hlo := hout.lt
    obtain ⟨tk, htk⟩ : ∃ tk, pick1 C0 C1 = tk := ⟨_, rfl⟩
    have p7 : Two wc g7 (.int .i64 C0) (.int .i64 G0) := ⟨c70, c71, f70, f71⟩
    go_upto_block 2 with fail
    go_cut [] (fun wy => ∃ Y : Int, Two wy g7 (.int .i64 (if tk then C1 else C0)) (.int .i64 Y) ∧ Turned wc wy g7)
    case first =>
     rcases (by omega : C0 < 0 ∨ 0 ≤ C0) with q0 | q0
     ·have d0 : decide (C0 < 0) = true := by simpa using q0
      obtain rfl : tk = true := by simp [← htk, pick1, d0]
      clear htk hbbi
      go_wp2_with fail
      all_goals
       go_meet
       exact ⟨_, by first | exact Two.set (u := .int .i64 C0) (v := .int .i64 G0) p7 _ _ | exact p7 | exact p7.set1 _, by first | exact turned_set2 _ _ _ _ | exact turned_refl _ _ | exact turned_set1 _ _ _ _⟩
     ·have d0 : decide (C0 < 0) = false := by simpa using q0
      rcases (by omega : C1 < 0 ∨ 0 ≤ C1) with q1 | q1
      ·have d1 : decide (0 ≤ C1) = false := by simpa using q1
       obtain rfl : tk = false := by simp [← htk, pick1, d0, d1]
       clear htk hbbi
       by_cases q2 : C0 = C1
       ·exact absurd q2 (by omega)
       ·have d2 : (C0 == C1) = false := by simpa using q2
        go_wp2_with fail
        all_goals
         go_meet
         exact ⟨_, by first | exact Two.set (u := .int .i64 C0) (v := .int .i64 G0) p7 _ _ | exact p7 | exact p7.set1 _, by first | exact turned_set2 _ _ _ _ | exact turned_refl _ _ | exact turned_set1 _ _ _ _⟩
      ·have d1 : decide (0 ≤ C1) = true := by simpa using q1
       rcases (by omega : C1 < C0 ∨ C0 ≤ C1) with q3 | q3
       ·have d3 : decide (C1 < C0) = true := by simpa using q3
        obtain rfl : tk = true := by simp [← htk, pick1, d0, d1, d3]
        clear htk hbbi
        go_wp2_with fail
        all_goals
         go_meet
         exact ⟨_, by first | exact Two.set (u := .int .i64 C0) (v := .int .i64 G0) p7 _ _ | exact p7 | exact p7.set1 _, by first | exact turned_set2 _ _ _ _ | exact turned_refl _ _ | exact turned_set1 _ _ _ _⟩
       ·have d3 : decide (C1 < C0) = false := by simpa using q3
        obtain rfl : tk = false := by simp [← htk, pick1, d0, d1, d3]
        clear htk hbbi
        by_cases q2 : C0 = C1
        ·subst q2
         go_wp2_with fail
         all_goals
          go_meet
          exact ⟨_, by first | exact Two.set (u := .int .i64 C0) (v := .int .i64 G0) p7 _ _ | exact p7 | exact p7.set1 _, by first | exact turned_set2 _ _ _ _ | exact turned_refl _ _ | exact turned_set1 _ _ _ _⟩
        ·have d2 : (C0 == C1) = false := by simpa using q2
         go_wp2_with fail
         all_goals
          go_meet
          exact ⟨_, by first | exact Two.set (u := .int .i64 C0) (v := .int .i64 G0) p7 _ _ | exact p7 | exact p7.set1 _, by first | exact turned_set2 _ _ _ _ | exact turned_refl _ _ | exact turned_set1 _ _ _ _⟩
    case rest =>
     obtain ⟨Y, ⟨e70, e71, _, _⟩, ht⟩ := hcut
     generalize hX : (if tk = true then C1 else C0) = X at e70
     have hXb : X = bb i := by rw [← hX, ← hbbi, htk]
     have ho2 := ho.heap (ht.other _ (by omega))
     have eB2 := ht.below eB (by omega)
     have hr2 := hres.kept eB2
     have hb2 := Lib.hid (Box8.keep HB.out eB2)
     have eB3 : Below w.heap.size w wc := hB.trans (eB2.mono (by omega))
     have hne7 : g7 ≠ w.heap.size + 2 := by omega
     clear HB ho ht eB c70 c71 c80 c81 f70 f71 f80 f81 p7 hX hbbi htk hres hout hbb
     have hn := Lib.hid (ho2.step h X Y hXb)
     rcases (by omega : i = 0 ∨ i = 1 ∨ i = 2 ∨ i = 3) with rfl | rfl | rfl | rfl
     ·obtain ⟨⟨z0, y0⟩, y1⟩ := ho2.there 0 (by omega)
      obtain ⟨⟨z1, y2⟩, y3⟩ := ho2.there 1 (by omega)
      subst hXb
      go_wp2_with fail
      go_roundw
      case rel => exact ⟨1, by omega, rfl, (eB3.setCell (by simp; omega) _).setCell (by simp; omega) _, (hb2.out.set (by simp; omega) _).set (by simp; omega) _, (hr2.far (by simp) _).far (by simp) _, hn.out⟩
      case measure => simp [intOf]
     ·obtain ⟨⟨z0, y0⟩, y1⟩ := ho2.there 2 (by omega)
      obtain ⟨⟨z1, y2⟩, y3⟩ := ho2.there 3 (by omega)
      subst hXb
      go_wp2_with fail
      go_roundw
      case rel => exact ⟨2, by omega, rfl, (eB3.setCell (by simp; omega) _).setCell (by simp; omega) _, (hb2.out.set (by simp; omega) _).set (by simp; omega) _, (hr2.far (by simp) _).far (by simp) _, hn.out⟩
      case measure => simp [intOf]
     ·obtain ⟨⟨z0, y0⟩, y1⟩ := ho2.there 4 (by omega)
      obtain ⟨⟨z1, y2⟩, y3⟩ := ho2.there 5 (by omega)
      subst hXb
      go_wp2_with fail
      go_roundw
      case rel => exact ⟨3, by omega, rfl, (eB3.setCell (by simp; omega) _).setCell (by simp; omega) _, (hb2.out.set (by simp; omega) _).set (by simp; omega) _, (hr2.far (by simp) _).far (by simp) _, hn.out⟩
      case measure => simp [intOf]
     ·obtain ⟨⟨z0, y0⟩, y1⟩ := ho2.there 6 (by omega)
      obtain ⟨⟨z1, y2⟩, y3⟩ := ho2.there 7 (by omega)
      subst hXb
      go_wp2_with fail
      go_roundw
      case rel => exact ⟨4, by omega, rfl, (eB3.setCell (by simp; omega) _).setCell (by simp; omega) _, (hb2.out.set (by simp; omega) _).set (by simp; omega) _, (hr2.far (by simp) _).far (by simp) _, hn.out⟩
      case measure => simp [intOf]
  ·obtain rfl : i = 4 := by omega
   clear hbox hbb Hbr
   obtain ⟨e, q, ho, he⟩ := hout
   obtain ⟨e', q', hr, -⟩ := hres
   have o0 := ho.cell (i := 0) rfl
   have o1 := ho.cell (i := 1) rfl
   have o2 := ho.cell (i := 2) rfl
   have o3 := ho.cell (i := 3) rfl
   have o4 := ho.cell (i := 4) rfl
   have o5 := ho.cell (i := 5) rfl
   have o6 := ho.cell (i := 6) rfl
   have o7 := ho.cell (i := 7) rfl
   have r0 := hr.cell (i := 0) rfl
   have r1 := hr.cell (i := 1) rfl
   have r2 := hr.cell (i := 2) rfl
   have r3 := hr.cell (i := 3) rfl
   have r4 := hr.cell (i := 4) rfl
   have r5 := hr.cell (i := 5) rfl
   have r6 := hr.cell (i := 6) rfl
   have r7 := hr.cell (i := 7) rfl
   have t0 := hr.frozen 0
   have t1 := hr.frozen 1
   have t2 := hr.frozen 2
   have t3 := hr.frozen 3
   have t4 := hr.frozen 4
   have t5 := hr.frozen 5
   have t6 := hr.frozen 6
   have t7 := hr.frozen 7
   rw [he 0 (by omega)] at o0
   rw [he 1 (by omega)] at o2
   rw [he 2 (by omega)] at o4
   rw [he 3 (by omega)] at o6
   have HF := Lib.hid (set8_blk bb q hr)
   have HG := Lib.hid (set8_below (G := w.heap.size + 1) bb q hB (by omega))
   clear ho hr he
   go_wp2_with fail
   change bodyPost _ _ _ _ _ (set8 wr (w.heap.size + 1) bb q)
   clear o0 o1 o2 o3 o4 o5 o6 o7 r0 r1 r2 r3 r4 r5 r6 r7 t0 t1 t2 t3 t4 t5 t6 t7
   generalize set8 wr (w.heap.size + 1) bb q = F at *
   have HF := HF.out
   have o0 := HF.cell (i := 0) rfl
   have o1 := HF.cell (i := 1) rfl
   have o2 := HF.cell (i := 2) rfl
   have o3 := HF.cell (i := 3) rfl
   have o4 := HF.cell (i := 4) rfl
   have o5 := HF.cell (i := 5) rfl
   have o6 := HF.cell (i := 6) rfl
   have o7 := HF.cell (i := 7) rfl
   exact bodyPost_ret (v := stgV bb q) (by simp [results, Tryz.results163, go_sem, stgV, o0, o1, o2, o3, o4, o5, o6, o7]) rfl ⟨q, rfl, HG.out⟩

end Go.Proofs.YtnlnmfkmbpihhaaGreatDoor
