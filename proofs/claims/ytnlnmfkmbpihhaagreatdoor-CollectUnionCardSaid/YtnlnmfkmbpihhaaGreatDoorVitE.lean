/-
 WALK: viterbi.Decode.
-/
import Derived.Test.YtnlnmfkmbpihhaaGreatDoorVitC
namespace Go.Proofs.YtnlnmfkmbpihhaaGreatDoor
open Go.RowKit

theorem R8.keep {A B : World} {g o : Nat} {e q : Nat → Int} (h : A.rangeAt g o (row8 e q)) (hb : Below A.heap.size A B) : B.rangeAt g o (row8 e q) := rangeAt_heap h (hb.block g (World.block_lt_of_cell? _ _ (h 0 _ rfl)))
theorem R8.turned {A B : World} {g o k : Nat} {e q : Nat → Int} (h : A.rangeAt g o (row8 e q)) (t : Turned A B k) (hne : g ≠ k) : B.rangeAt g o (row8 e q) := rangeAt_heap h (t.other g hne)
theorem R8.drw {A : World} {g o : Nat} {e q : Nat → Int} (h : A.rangeAt g o (row8 e q)) : A.drew.rangeAt g o (row8 e q) := h
theorem own_make (w : World) (c : Nat) (hc : c ≤ 1000000) : (w.alloc (.cells (arrB (List.replicate c 0)) 5)).ownsRow w.heap.size 5 1 (.slice (some ⟨w.heap.size, 0, none⟩) 0 c) 0 [] :=
 ⟨by simp, .inr ⟨w.heap.size, c, arrB (List.replicate c 0), rfl, Nat.le_refl _, by show (w.heap.push _)[w.heap.size]? = _; simp, Nat.zero_le _, Nat.le_trans hc (by decide), by simp [arrB], by simp⟩⟩
theorem own_keep {w w' : World} {B n : Nat} {t : TypeId} {v : Value} {xs : List Value} (h : w.ownsRow B t 1 v n xs) (hb : Below w.heap.size w w') : w'.ownsRow B t 1 v n xs := by
 obtain ⟨hl, h⟩ := h
 refine ⟨hl, h.imp id ?_⟩
 rintro ⟨g, cap, cur, e, hB, hg, r⟩
 exact ⟨g, cap, cur, e, hB, (hb.block g (Array.getElem?_eq_some_iff.1 hg).1).trans hg, r⟩
/-- The decoder's state and the bits so far. -/
def vrun (l : List Nat) : Nat → List Nat → Nat → Prop
 | i, u, t => u.length = i ∧ Bits u ∧ t < 4 ∧ ∀ n, vdec (i + n) l 0 = u ++ vdec n (l.drop (2 * i)) t
theorem vrun_zero (l : List Nat) : vrun l 0 [] 0 := ⟨rfl, fun _ h => (by cases h), by omega, fun n => by rw [Nat.zero_add]; rfl⟩
theorem vrun_step {l : List Nat} {i t x y b : Nat} {u : List Nat} (h : vrun l i u t) (hd : l.drop (2 * i) = x :: y :: l.drop (2 * (i + 1))) (hb : vbit x y (vst (l.drop (2 * (i + 1)))) t = b) : vrun l (i + 1) (u ++ [b]) (cnx t b) := by
 obtain ⟨h1, h2, h3, h4⟩ := h
 have hb2 : b < 2 := by rw [← hb]; exact vbit_lt _ _ _ _
 refine ⟨by simp [h1], fun c hc => ?_, cnx_lt h3 hb2, fun n => ?_⟩
 ·rcases List.mem_append.1 hc with hc | hc
  ·exact h2 c hc
  ·obtain rfl : c = b := by simpa using hc
   exact hb2
 ·have h5 := h4 (n + 1)
  rw [show i + 1 + n = i + (n + 1) by omega, h5, hd, vdec, hb, List.append_assoc]
  rfl

set_option maxRecDepth 100000 in
set_option maxHeartbeats 8000000 in
theorem vdecode_any (w : World) (s : ByteArray) (m : Nat) (hs : s.size = 2 * (m + 2)) (hm : m ≤ 900) (hok : chkE (bs s) = 0) :
  Calls Tryz.prog 52 #[.string s] w fun e w' => (∃ f : Bool, e = .returned (.tuple #[.string (strB (bitsS (vdec m (bs s) 0))), .int .i64 (vst (bs s) 0), .bool f, .int .i64 0])) ∧ Below w.heap.size w w' := by
 have Hc := Lib.hid (fun W => vcheck_any W s (m + 2) hs (by omega) (by omega) hok)
 have Hst := Lib.hid (fun W => vstages_any W s (m + 2) hs (by omega))
 have hmk : ∀ W : World, (Instr.makeSlice 100 (.int .i64 0) (.int .i64 ((m : Int) + 2 + 1))).run Tryz.prog W = .ok (.slice (some ⟨W.heap.size, 0, none⟩) 0 (m + 2 + 1)) (W.alloc (.cells (arrB (List.replicate (m + 2 + 1) 0)) 5)) := make_u8 0 (m + 2 + 1) (by omega) (by omega)
 have hdiv : Int.tdiv (s.size : Int) 2 = (m : Int) + 2 := by rw [hs, Int.tdiv_eq_ediv_of_nonneg (by omega)]; omega
 have hmJ : (m : Int) ≤ 900 := by omega
 go_enter Tryz.func52, Tryz.ntmps52
 go_wp2_with fail
 refine (Hc.out _).mono ?_
 rintro e w1 ⟨rfl, hb1⟩
 have Hb1 := Lib.hid hb1
 clear hb1
 go_wp2_with fail
 refine (Hst.out _).mono ?_
 rintro e w2 ⟨G, rfl, hG, hS, hb2⟩
 have HS := Lib.hid hS
 have hsz := Hb1.out.size
 have hGl := hS.lt (by omega)
 have HB2 := Lib.hid (Hb1.out.trans (hb2.mono hsz))
 clear hS hb2 Hc Hst
 go_wp2_with fail
 go_loopw [8, 9, 29] (fun st v c wr => ∃ (i t : Nat) (u : List Nat), i ≤ m ∧ st = .int .i64 (t : Int) ∧ c = .int .i64 (i : Int) ∧ vrun (bs s) i u t ∧ wr.ownsRow w2.heap.size 5 1 v i ((bitsS u).map u8V) ∧ Below w2.heap.size w2 wr) (fun _ _ c _ => m - (intOf c).toNat)
 case atStart => exact ⟨0, 0, [], by omega, rfl, rfl, vrun_zero _, own_make w2 (m + 2 + 1) (by omega), (Below.refl _ _).alloc (Nat.le_refl _) _⟩
 case round =>
  obtain ⟨i, t, u, hi, rfl, rfl, hr, ho, hB⟩ := hrel
  have hSr := HS.out.kept (by omega) hB
  have ht4 : t < 4 := hr.2.2.1
  have Ho := Lib.hid ho
  have HBr := Lib.hid hB
  have hBs := hB.size
  have hGr : G < wr.heap.size := by omega
  clear ho hB
  by_cases h : i < m
  ·obtain ⟨x, y, hxy, hdr⟩ := drop_pair (s := s) (k := i) (by omega)
   obtain ⟨q, hq⟩ := hSr.at' (i + 1) (by omega) (by omega)
   have hbd : ∀ j, -1 ≤ stgOf s (i + 1) j ∧ stgOf s (i + 1) j ≤ 1000000 := fun j => by
    unfold stgOf
    have h1 := vst_ge ((bs s).drop (2 * (i + 1))) j
    have h2 := vst_le ((bs s).drop (2 * (i + 1))) j
    have h3 : ((bs s).drop (2 * (i + 1))).length ≤ 2000 := by rw [List.length_drop, bs_len]; omega
    omega
   have hx0 := Lib.hid (fun W => vbranch_any W (s.extract (2 * i) (2 * i + 2)) x y hxy (stgOf s (i + 1)) q hbd t 0 ht4 (by omega))
   have hx1 := Lib.hid (fun W => vbranch_any W (s.extract (2 * i) (2 * i + 2)) x y hxy (stgOf s (i + 1)) q hbd t 1 ht4 (by omega))
   obtain ⟨tkb, htk⟩ : ∃ tkb, pick1 (brc x y (stgOf s (i + 1)) t 0) (brc x y (stgOf s (i + 1)) t 1) = tkb := ⟨_, rfl⟩
   have hbit : vbit x y (vst ((bs s).drop (2 * (i + 1)))) t = if tkb = true then 1 else 0 := by rw [← htk]; rfl
   have HN := Lib.hid (vrun_step hr hdr hbit)
   unfold stgV sufV at hx0 hx1
   generalize brc x y (stgOf s (i + 1)) t 0 = C0 at *
   generalize brc x y (stgOf s (i + 1)) t 1 = C1 at *
   generalize q (cnx t 0) = G0 at *
   generalize q (cnx t 1) = G1 at *
   generalize stgOf s (i + 1) = V1 at *
   have H0 : Hid (∀ W, Calls Tryz.prog 98 #[.string (s.extract (2 * i) (2 * i + 2)), .agg (row8 V1 q).toArray, .int .i64 (t : Int), .int .i64 0] W fun e w' => e = .returned (.agg #[.int .i64 C0, .int .i64 G0]) ∧ Below W.heap.size W w') := hx0
   have H1 : Hid (∀ W, Calls Tryz.prog 98 #[.string (s.extract (2 * i) (2 * i + 2)), .agg (row8 V1 q).toArray, .int .i64 (t : Int), .int .i64 1] W fun e w' => e = .returned (.agg #[.int .i64 C1, .int .i64 G1]) ∧ Below W.heap.size W w') := hx1
   have hul : u.length = i := hr.1
   clear hx0 hx1 hbd hbit hdr hxy hr hSr
   have hiJ : (i : Int) < m := by omega
   have et : ((i : Int) + 1).toNat = i + 1 := by omega
   have e1 : ((2 : Int) * i).toNat = 2 * i := by omega
   have e2 : ((2 : Int) * i + 2).toNat = 2 * i + 2 := by omega
   have ew1 : IntKind.i64.wrap (2 * (i : Int)) = 2 * i := by rw [IntKind.wrap_i64]; omega
   have ew2 : IntKind.i64.wrap (2 * (i : Int) + 2) = 2 * i + 2 := by rw [IntKind.wrap_i64]; omega
   have ew3 : IntKind.i64.wrap ((i : Int) + 1) = i + 1 := by rw [IntKind.wrap_i64]; omega
   have b1 : (2 : Int) * i + 2 ≤ s.size := by omega
   have b4 : (0 : Int) ≤ 2 * i + 2 := by omega
   have b5 : (2 : Int) * i + 2 ≤ 2 * (m + 2) := by omega
   have b6 : (0 : Int) ≤ 2 * i := by omega
   have b7 : (2 : Int) * i ≤ 2 * i + 2 := by omega
   have b8 : (0 : Int) ≤ i + 1 := by omega
   have b2 : (i : Int) + 1 < m + 2 + 1 := by omega
   go_upto_region 11 with fail
   go_cut [12, 13] (fun s7 s8 wx => ∃ g7 g8 : Nat, s7 = .pointer (some ⟨g7, 0, none⟩) ∧ s8 = .pointer (some ⟨g8, 0, none⟩) ∧ g7 ≠ g8 ∧ wr.heap.size ≤ g7 ∧ wr.heap.size ≤ g8 ∧ Two wx g7 (.int .i64 C0) (.int .i64 G0) ∧ Two wx g8 (.int .i64 C1) (.int .i64 G1) ∧ Below wr.heap.size wr wx)
   case first =>
    refine wp_region_held_drew (S := (fun w' => w'.rangeAt G ((i + 1) * 8) (row8 V1 q))) (by kernel_rfl) ?_ (fun hHeld => ?_)
    ·(repeat' (first | with_reducible (first | exact hq | refine R8.drw ?_ | refine R8.keep ?_ hb5 | refine R8.keep ?_ hb6 | refine R8.keep ?_ hb7 | refine R8.keep ?_ hb8 | refine R8.turned ?_ t9 ?_ | refine R8.turned ?_ t10 ?_) | omega))
    refine tk 0 ?_
    refine tk 1 ?_
    refine tk 2 ?_
    refine tk 3 ?_
    refine tk 4 ?_
    refine wpAnyH_take (i := 5) (oi := _) (v := _) rfl (by kernel_rfl) (by kernel_rfl) (by kernel_rfl) (fun _ _ _ h => h) (yieldsIf_load_mid (by rfl) 139 (.tmp 43) rfl G ((i + 1) * 8) rfl (row8 V1 q) _ (fun _ h => h) Tryz.underlying139 rfl Tryz.sizeStg) (by assumption) ?rest5
    try simp only [Act.put, List.setIfInBounds_toArray]
    try simp only [List.getElem_toArray, List.getElem_cons_zero, List.getElem_cons_succ]
    refine tk 6 ?_
    refine tk 8 ?_
    refine tk 9 ?_
    refine tk 10 ?_
    refine tk 11 ?_
    refine tk 12 ?_
    refine wpAnyH_take (i := 13) (oi := _) (v := _) rfl (by kernel_rfl) (by kernel_rfl) (by kernel_rfl) (fun _ _ _ h => h) (yieldsIf_load_mid (by rfl) 139 (.tmp 51) rfl G ((i + 1) * 8) rfl (row8 V1 q) _ (fun _ h => h) Tryz.underlying139 rfl Tryz.sizeStg) (by assumption) ?rest13
    try simp only [Act.put, List.setIfInBounds_toArray]
    try simp only [List.getElem_toArray, List.getElem_cons_zero, List.getElem_cons_succ]
    refine tk 14 ?_
    refine wpAnyH_ready (rs := [7, 16, 17]) (by kernel_rfl) (by simp) ?_
    refine AllReadyH.cons (o := _) rfl (fun K hK => ?_) ?_
    ·go_simp
     refine (H0.out _).mono ?_
     rintro e w5 ⟨rfl, hb5⟩
     (try go_wp2_with fail)
     have s5 := hb5.size; (try change wr.heap.size ≤ _ at s5)
     refine hko hK (by (repeat' (first | with_reducible (first | exact hq | refine R8.drw ?_ | refine R8.keep ?_ hb5 | refine R8.keep ?_ hb6 | refine R8.keep ?_ hb7 | refine R8.keep ?_ hb8 | refine R8.turned ?_ t9 ?_ | refine R8.turned ?_ t10 ?_) | omega))) (fun _ => ?_)
     clear hK K
     refine wpAnyH_ready (rs := [15, 16, 17]) (by kernel_rfl) (by simp) ?_
     refine AllReadyH.cons (o := _) rfl (fun K hK => ?_) ?_
     ·go_simp
      refine (H1.out _).mono ?_
      rintro e w6 ⟨rfl, hb6⟩
      (try go_wp2_with fail)
      have s6 := hb6.size; (try change wr.heap.size ≤ _ at s6)
      refine hko hK (by (repeat' (first | with_reducible (first | exact hq | refine R8.drw ?_ | refine R8.keep ?_ hb5 | refine R8.keep ?_ hb6 | refine R8.keep ?_ hb7 | refine R8.keep ?_ hb8 | refine R8.turned ?_ t9 ?_ | refine R8.turned ?_ t10 ?_) | omega))) (fun _ => ?_)
      clear hK K
      refine wpAnyH_ready (rs := [16, 17]) (by kernel_rfl) (by simp) ?_
      refine AllReadyH.cons (o := _) rfl (fun K hK => ?_) ?_
      ·refine step_alloc2 12 rfl rfl rfl ?_
       intro g7 w7 hg7 p7 hb7
       (try change wr.heap.size ≤ g7 at hg7)
       have l7 := p7.lt
       have s7 := hb7.size; (try change wr.heap.size ≤ _ at s7)
       refine hko hK (by (repeat' (first | with_reducible (first | exact hq | refine R8.drw ?_ | refine R8.keep ?_ hb5 | refine R8.keep ?_ hb6 | refine R8.keep ?_ hb7 | refine R8.keep ?_ hb8 | refine R8.turned ?_ t9 ?_ | refine R8.turned ?_ t10 ?_) | omega))) (fun _ => ?_)
       clear hK K
       refine wpAnyH_ready (rs := [17]) (by kernel_rfl) (by simp) ?_
       refine AllReadyH.cons (o := _) rfl (fun K hK => ?_) ?_
       ·refine step_alloc2 13 rfl rfl rfl ?_
        intro g8 w8 hg8 p8 hb8
        (try change wr.heap.size ≤ g8 at hg8)
        have l8 := p8.lt
        have s8 := hb8.size; (try change wr.heap.size ≤ _ at s8)
        refine hko hK (by (repeat' (first | with_reducible (first | exact hq | refine R8.drw ?_ | refine R8.keep ?_ hb5 | refine R8.keep ?_ hb6 | refine R8.keep ?_ hb7 | refine R8.keep ?_ hb8 | refine R8.turned ?_ t9 ?_ | refine R8.turned ?_ t10 ?_) | omega))) (fun _ => ?_)
        clear hK K
        refine wpAnyH_ready (rs := [18]) (by kernel_rfl) (by simp) ?_
        refine AllReadyH.cons (o := _) rfl (fun K hK => ?_) ?_
        ·refine step_store2 rfl (.tmp 12) (.tmp 46) rfl rfl rfl rfl rfl (g := g7) (u := .int .i64 0) (v := .int .i64 0) (by (repeat' (first | with_reducible (first | exact p7 | exact p8 | refine Two.keep ?_ hb5 | refine Two.keep ?_ hb6 | refine Two.keep ?_ hb7 | refine Two.keep ?_ hb8)))) ?_
         intro w9 p9 t9
         have s9 := t9.size
         refine hko hK (by (repeat' (first | with_reducible (first | exact hq | refine R8.drw ?_ | refine R8.keep ?_ hb5 | refine R8.keep ?_ hb6 | refine R8.keep ?_ hb7 | refine R8.keep ?_ hb8 | refine R8.turned ?_ t9 ?_ | refine R8.turned ?_ t10 ?_) | omega))) (fun _ => ?_)
         clear hK K
         refine wpAnyH_ready (rs := [19]) (by kernel_rfl) (by simp) ?_
         refine AllReadyH.cons (o := _) rfl (fun K hK => ?_) ?_
         ·refine step_store2 rfl (.tmp 13) (.tmp 54) rfl rfl rfl rfl rfl (g := g8) (u := .int .i64 0) (v := .int .i64 0) (by (refine Two.of_heap ?_ (t9.other g8 (by omega)); (repeat' (first | with_reducible (first | exact p7 | exact p8 | refine Two.keep ?_ hb5 | refine Two.keep ?_ hb6 | refine Two.keep ?_ hb7 | refine Two.keep ?_ hb8))))) ?_
          intro w10 p10 t10
          have s10 := t10.size
          refine hko hK (by (repeat' (first | with_reducible (first | exact hq | refine R8.drw ?_ | refine R8.keep ?_ hb5 | refine R8.keep ?_ hb6 | refine R8.keep ?_ hb7 | refine R8.keep ?_ hb8 | refine R8.turned ?_ t9 ?_ | refine R8.turned ?_ t10 ?_) | omega))) (fun _ => ?_)
          clear hK K
          refine wpAnyH_done (by kernel_rfl) ?_ _
          have e7 := p9.of_heap (t10.other g7 (by omega))
          have eB : Below wr.heap.size wr w10 := by (repeat' (first | with_reducible exact Below.refl _ _ | exact Nat.le_refl _ | with_reducible (first | refine Below.drew ?_ | refine Turned.below t10 ?_ ?_ | refine Turned.below t9 ?_ ?_ | refine Below.trans ?_ (hb5.mono ?_) | refine Below.trans ?_ (hb6.mono ?_) | refine Below.trans ?_ (hb7.mono ?_) | refine Below.trans ?_ (hb8.mono ?_)) | omega))
          clear hb5 hb6 hb7 hb8 t9 t10 p9 p7 p8
          go_wp2_with fail
          go_meet
          refine ⟨g7, g8, ?_, ?_, by omega, by omega, by omega, e7, p10, eB⟩
          all_goals rfl
         exact AllReadyH.nil
        exact AllReadyH.nil
       exact AllReadyH.nil
      refine AllReadyH.cons (o := _) rfl (fun K hK => ?_) ?_
      ·refine step_alloc2 13 rfl rfl rfl ?_
       intro g8 w8 hg8 p8 hb8
       (try change wr.heap.size ≤ g8 at hg8)
       have l8 := p8.lt
       have s8 := hb8.size; (try change wr.heap.size ≤ _ at s8)
       refine hko hK (by (repeat' (first | with_reducible (first | exact hq | refine R8.drw ?_ | refine R8.keep ?_ hb5 | refine R8.keep ?_ hb6 | refine R8.keep ?_ hb7 | refine R8.keep ?_ hb8 | refine R8.turned ?_ t9 ?_ | refine R8.turned ?_ t10 ?_) | omega))) (fun _ => ?_)
       clear hK K
       refine wpAnyH_ready (rs := [16]) (by kernel_rfl) (by simp) ?_
       refine AllReadyH.cons (o := _) rfl (fun K hK => ?_) ?_
       ·refine step_alloc2 12 rfl rfl rfl ?_
        intro g7 w7 hg7 p7 hb7
        (try change wr.heap.size ≤ g7 at hg7)
        have l7 := p7.lt
        have s7 := hb7.size; (try change wr.heap.size ≤ _ at s7)
        refine hko hK (by (repeat' (first | with_reducible (first | exact hq | refine R8.drw ?_ | refine R8.keep ?_ hb5 | refine R8.keep ?_ hb6 | refine R8.keep ?_ hb7 | refine R8.keep ?_ hb8 | refine R8.turned ?_ t9 ?_ | refine R8.turned ?_ t10 ?_) | omega))) (fun _ => ?_)
        clear hK K
        refine wpAnyH_ready (rs := [18]) (by kernel_rfl) (by simp) ?_
        refine AllReadyH.cons (o := _) rfl (fun K hK => ?_) ?_
        ·refine step_store2 rfl (.tmp 12) (.tmp 46) rfl rfl rfl rfl rfl (g := g7) (u := .int .i64 0) (v := .int .i64 0) (by (repeat' (first | with_reducible (first | exact p7 | exact p8 | refine Two.keep ?_ hb5 | refine Two.keep ?_ hb6 | refine Two.keep ?_ hb7 | refine Two.keep ?_ hb8)))) ?_
         intro w9 p9 t9
         have s9 := t9.size
         refine hko hK (by (repeat' (first | with_reducible (first | exact hq | refine R8.drw ?_ | refine R8.keep ?_ hb5 | refine R8.keep ?_ hb6 | refine R8.keep ?_ hb7 | refine R8.keep ?_ hb8 | refine R8.turned ?_ t9 ?_ | refine R8.turned ?_ t10 ?_) | omega))) (fun _ => ?_)
         clear hK K
         refine wpAnyH_ready (rs := [19]) (by kernel_rfl) (by simp) ?_
         refine AllReadyH.cons (o := _) rfl (fun K hK => ?_) ?_
         ·refine step_store2 rfl (.tmp 13) (.tmp 54) rfl rfl rfl rfl rfl (g := g8) (u := .int .i64 0) (v := .int .i64 0) (by (refine Two.of_heap ?_ (t9.other g8 (by omega)); (repeat' (first | with_reducible (first | exact p7 | exact p8 | refine Two.keep ?_ hb5 | refine Two.keep ?_ hb6 | refine Two.keep ?_ hb7 | refine Two.keep ?_ hb8))))) ?_
          intro w10 p10 t10
          have s10 := t10.size
          refine hko hK (by (repeat' (first | with_reducible (first | exact hq | refine R8.drw ?_ | refine R8.keep ?_ hb5 | refine R8.keep ?_ hb6 | refine R8.keep ?_ hb7 | refine R8.keep ?_ hb8 | refine R8.turned ?_ t9 ?_ | refine R8.turned ?_ t10 ?_) | omega))) (fun _ => ?_)
          clear hK K
          refine wpAnyH_done (by kernel_rfl) ?_ _
          have e7 := p9.of_heap (t10.other g7 (by omega))
          have eB : Below wr.heap.size wr w10 := by (repeat' (first | with_reducible exact Below.refl _ _ | exact Nat.le_refl _ | with_reducible (first | refine Below.drew ?_ | refine Turned.below t10 ?_ ?_ | refine Turned.below t9 ?_ ?_ | refine Below.trans ?_ (hb5.mono ?_) | refine Below.trans ?_ (hb6.mono ?_) | refine Below.trans ?_ (hb7.mono ?_) | refine Below.trans ?_ (hb8.mono ?_)) | omega))
          clear hb5 hb6 hb7 hb8 t9 t10 p9 p7 p8
          go_wp2_with fail
          go_meet
          refine ⟨g7, g8, ?_, ?_, by omega, by omega, by omega, e7, p10, eB⟩
          all_goals rfl
         exact AllReadyH.nil
        exact AllReadyH.nil
       exact AllReadyH.nil
      exact AllReadyH.nil
     refine AllReadyH.cons (o := _) rfl (fun K hK => ?_) ?_
     ·refine step_alloc2 12 rfl rfl rfl ?_
      intro g7 w7 hg7 p7 hb7
      (try change wr.heap.size ≤ g7 at hg7)
      have l7 := p7.lt
      have s7 := hb7.size; (try change wr.heap.size ≤ _ at s7)
      refine hko hK (by (repeat' (first | with_reducible (first | exact hq | refine R8.drw ?_ | refine R8.keep ?_ hb5 | refine R8.keep ?_ hb6 | refine R8.keep ?_ hb7 | refine R8.keep ?_ hb8 | refine R8.turned ?_ t9 ?_ | refine R8.turned ?_ t10 ?_) | omega))) (fun _ => ?_)
      clear hK K
      refine wpAnyH_ready (rs := [15, 17]) (by kernel_rfl) (by simp) ?_
      refine AllReadyH.cons (o := _) rfl (fun K hK => ?_) ?_
      ·go_simp
       refine (H1.out _).mono ?_
       rintro e w6 ⟨rfl, hb6⟩
       (try go_wp2_with fail)
       have s6 := hb6.size; (try change wr.heap.size ≤ _ at s6)
       refine hko hK (by (repeat' (first | with_reducible (first | exact hq | refine R8.drw ?_ | refine R8.keep ?_ hb5 | refine R8.keep ?_ hb6 | refine R8.keep ?_ hb7 | refine R8.keep ?_ hb8 | refine R8.turned ?_ t9 ?_ | refine R8.turned ?_ t10 ?_) | omega))) (fun _ => ?_)
       clear hK K
       refine wpAnyH_ready (rs := [17]) (by kernel_rfl) (by simp) ?_
       refine AllReadyH.cons (o := _) rfl (fun K hK => ?_) ?_
       ·refine step_alloc2 13 rfl rfl rfl ?_
        intro g8 w8 hg8 p8 hb8
        (try change wr.heap.size ≤ g8 at hg8)
        have l8 := p8.lt
        have s8 := hb8.size; (try change wr.heap.size ≤ _ at s8)
        refine hko hK (by (repeat' (first | with_reducible (first | exact hq | refine R8.drw ?_ | refine R8.keep ?_ hb5 | refine R8.keep ?_ hb6 | refine R8.keep ?_ hb7 | refine R8.keep ?_ hb8 | refine R8.turned ?_ t9 ?_ | refine R8.turned ?_ t10 ?_) | omega))) (fun _ => ?_)
        clear hK K
        refine wpAnyH_ready (rs := [18]) (by kernel_rfl) (by simp) ?_
        refine AllReadyH.cons (o := _) rfl (fun K hK => ?_) ?_
        ·refine step_store2 rfl (.tmp 12) (.tmp 46) rfl rfl rfl rfl rfl (g := g7) (u := .int .i64 0) (v := .int .i64 0) (by (repeat' (first | with_reducible (first | exact p7 | exact p8 | refine Two.keep ?_ hb5 | refine Two.keep ?_ hb6 | refine Two.keep ?_ hb7 | refine Two.keep ?_ hb8)))) ?_
         intro w9 p9 t9
         have s9 := t9.size
         refine hko hK (by (repeat' (first | with_reducible (first | exact hq | refine R8.drw ?_ | refine R8.keep ?_ hb5 | refine R8.keep ?_ hb6 | refine R8.keep ?_ hb7 | refine R8.keep ?_ hb8 | refine R8.turned ?_ t9 ?_ | refine R8.turned ?_ t10 ?_) | omega))) (fun _ => ?_)
         clear hK K
         refine wpAnyH_ready (rs := [19]) (by kernel_rfl) (by simp) ?_
         refine AllReadyH.cons (o := _) rfl (fun K hK => ?_) ?_
         ·refine step_store2 rfl (.tmp 13) (.tmp 54) rfl rfl rfl rfl rfl (g := g8) (u := .int .i64 0) (v := .int .i64 0) (by (refine Two.of_heap ?_ (t9.other g8 (by omega)); (repeat' (first | with_reducible (first | exact p7 | exact p8 | refine Two.keep ?_ hb5 | refine Two.keep ?_ hb6 | refine Two.keep ?_ hb7 | refine Two.keep ?_ hb8))))) ?_
          intro w10 p10 t10
          have s10 := t10.size
          refine hko hK (by (repeat' (first | with_reducible (first | exact hq | refine R8.drw ?_ | refine R8.keep ?_ hb5 | refine R8.keep ?_ hb6 | refine R8.keep ?_ hb7 | refine R8.keep ?_ hb8 | refine R8.turned ?_ t9 ?_ | refine R8.turned ?_ t10 ?_) | omega))) (fun _ => ?_)
          clear hK K
          refine wpAnyH_done (by kernel_rfl) ?_ _
          have e7 := p9.of_heap (t10.other g7 (by omega))
          have eB : Below wr.heap.size wr w10 := by (repeat' (first | with_reducible exact Below.refl _ _ | exact Nat.le_refl _ | with_reducible (first | refine Below.drew ?_ | refine Turned.below t10 ?_ ?_ | refine Turned.below t9 ?_ ?_ | refine Below.trans ?_ (hb5.mono ?_) | refine Below.trans ?_ (hb6.mono ?_) | refine Below.trans ?_ (hb7.mono ?_) | refine Below.trans ?_ (hb8.mono ?_)) | omega))
          clear hb5 hb6 hb7 hb8 t9 t10 p9 p7 p8
          go_wp2_with fail
          go_meet
          refine ⟨g7, g8, ?_, ?_, by omega, by omega, by omega, e7, p10, eB⟩
          all_goals rfl
         exact AllReadyH.nil
        exact AllReadyH.nil
       exact AllReadyH.nil
      refine AllReadyH.cons (o := _) rfl (fun K hK => ?_) ?_
      ·refine step_alloc2 13 rfl rfl rfl ?_
       intro g8 w8 hg8 p8 hb8
       (try change wr.heap.size ≤ g8 at hg8)
       have l8 := p8.lt
       have s8 := hb8.size; (try change wr.heap.size ≤ _ at s8)
       refine hko hK (by (repeat' (first | with_reducible (first | exact hq | refine R8.drw ?_ | refine R8.keep ?_ hb5 | refine R8.keep ?_ hb6 | refine R8.keep ?_ hb7 | refine R8.keep ?_ hb8 | refine R8.turned ?_ t9 ?_ | refine R8.turned ?_ t10 ?_) | omega))) (fun _ => ?_)
       clear hK K
       refine wpAnyH_ready (rs := [15]) (by kernel_rfl) (by simp) ?_
       refine AllReadyH.cons (o := _) rfl (fun K hK => ?_) ?_
       ·go_simp
        refine (H1.out _).mono ?_
        rintro e w6 ⟨rfl, hb6⟩
        (try go_wp2_with fail)
        have s6 := hb6.size; (try change wr.heap.size ≤ _ at s6)
        refine hko hK (by (repeat' (first | with_reducible (first | exact hq | refine R8.drw ?_ | refine R8.keep ?_ hb5 | refine R8.keep ?_ hb6 | refine R8.keep ?_ hb7 | refine R8.keep ?_ hb8 | refine R8.turned ?_ t9 ?_ | refine R8.turned ?_ t10 ?_) | omega))) (fun _ => ?_)
        clear hK K
        refine wpAnyH_ready (rs := [18]) (by kernel_rfl) (by simp) ?_
        refine AllReadyH.cons (o := _) rfl (fun K hK => ?_) ?_
        ·refine step_store2 rfl (.tmp 12) (.tmp 46) rfl rfl rfl rfl rfl (g := g7) (u := .int .i64 0) (v := .int .i64 0) (by (repeat' (first | with_reducible (first | exact p7 | exact p8 | refine Two.keep ?_ hb5 | refine Two.keep ?_ hb6 | refine Two.keep ?_ hb7 | refine Two.keep ?_ hb8)))) ?_
         intro w9 p9 t9
         have s9 := t9.size
         refine hko hK (by (repeat' (first | with_reducible (first | exact hq | refine R8.drw ?_ | refine R8.keep ?_ hb5 | refine R8.keep ?_ hb6 | refine R8.keep ?_ hb7 | refine R8.keep ?_ hb8 | refine R8.turned ?_ t9 ?_ | refine R8.turned ?_ t10 ?_) | omega))) (fun _ => ?_)
         clear hK K
         refine wpAnyH_ready (rs := [19]) (by kernel_rfl) (by simp) ?_
         refine AllReadyH.cons (o := _) rfl (fun K hK => ?_) ?_
         ·refine step_store2 rfl (.tmp 13) (.tmp 54) rfl rfl rfl rfl rfl (g := g8) (u := .int .i64 0) (v := .int .i64 0) (by (refine Two.of_heap ?_ (t9.other g8 (by omega)); (repeat' (first | with_reducible (first | exact p7 | exact p8 | refine Two.keep ?_ hb5 | refine Two.keep ?_ hb6 | refine Two.keep ?_ hb7 | refine Two.keep ?_ hb8))))) ?_
          intro w10 p10 t10
          have s10 := t10.size
          refine hko hK (by (repeat' (first | with_reducible (first | exact hq | refine R8.drw ?_ | refine R8.keep ?_ hb5 | refine R8.keep ?_ hb6 | refine R8.keep ?_ hb7 | refine R8.keep ?_ hb8 | refine R8.turned ?_ t9 ?_ | refine R8.turned ?_ t10 ?_) | omega))) (fun _ => ?_)
          clear hK K
          refine wpAnyH_done (by kernel_rfl) ?_ _
          have e7 := p9.of_heap (t10.other g7 (by omega))
          have eB : Below wr.heap.size wr w10 := by (repeat' (first | with_reducible exact Below.refl _ _ | exact Nat.le_refl _ | with_reducible (first | refine Below.drew ?_ | refine Turned.below t10 ?_ ?_ | refine Turned.below t9 ?_ ?_ | refine Below.trans ?_ (hb5.mono ?_) | refine Below.trans ?_ (hb6.mono ?_) | refine Below.trans ?_ (hb7.mono ?_) | refine Below.trans ?_ (hb8.mono ?_)) | omega))
          clear hb5 hb6 hb7 hb8 t9 t10 p9 p7 p8
          go_wp2_with fail
          go_meet
          refine ⟨g7, g8, ?_, ?_, by omega, by omega, by omega, e7, p10, eB⟩
          all_goals rfl
         exact AllReadyH.nil
        exact AllReadyH.nil
       exact AllReadyH.nil
      exact AllReadyH.nil
     refine AllReadyH.cons (o := _) rfl (fun K hK => ?_) ?_
     ·refine step_alloc2 13 rfl rfl rfl ?_
      intro g8 w8 hg8 p8 hb8
      (try change wr.heap.size ≤ g8 at hg8)
      have l8 := p8.lt
      have s8 := hb8.size; (try change wr.heap.size ≤ _ at s8)
      refine hko hK (by (repeat' (first | with_reducible (first | exact hq | refine R8.drw ?_ | refine R8.keep ?_ hb5 | refine R8.keep ?_ hb6 | refine R8.keep ?_ hb7 | refine R8.keep ?_ hb8 | refine R8.turned ?_ t9 ?_ | refine R8.turned ?_ t10 ?_) | omega))) (fun _ => ?_)
      clear hK K
      refine wpAnyH_ready (rs := [15, 16]) (by kernel_rfl) (by simp) ?_
      refine AllReadyH.cons (o := _) rfl (fun K hK => ?_) ?_
      ·go_simp
       refine (H1.out _).mono ?_
       rintro e w6 ⟨rfl, hb6⟩
       (try go_wp2_with fail)
       have s6 := hb6.size; (try change wr.heap.size ≤ _ at s6)
       refine hko hK (by (repeat' (first | with_reducible (first | exact hq | refine R8.drw ?_ | refine R8.keep ?_ hb5 | refine R8.keep ?_ hb6 | refine R8.keep ?_ hb7 | refine R8.keep ?_ hb8 | refine R8.turned ?_ t9 ?_ | refine R8.turned ?_ t10 ?_) | omega))) (fun _ => ?_)
       clear hK K
       refine wpAnyH_ready (rs := [16]) (by kernel_rfl) (by simp) ?_
       refine AllReadyH.cons (o := _) rfl (fun K hK => ?_) ?_
       ·refine step_alloc2 12 rfl rfl rfl ?_
        intro g7 w7 hg7 p7 hb7
        (try change wr.heap.size ≤ g7 at hg7)
        have l7 := p7.lt
        have s7 := hb7.size; (try change wr.heap.size ≤ _ at s7)
        refine hko hK (by (repeat' (first | with_reducible (first | exact hq | refine R8.drw ?_ | refine R8.keep ?_ hb5 | refine R8.keep ?_ hb6 | refine R8.keep ?_ hb7 | refine R8.keep ?_ hb8 | refine R8.turned ?_ t9 ?_ | refine R8.turned ?_ t10 ?_) | omega))) (fun _ => ?_)
        clear hK K
        refine wpAnyH_ready (rs := [18]) (by kernel_rfl) (by simp) ?_
        refine AllReadyH.cons (o := _) rfl (fun K hK => ?_) ?_
        ·refine step_store2 rfl (.tmp 12) (.tmp 46) rfl rfl rfl rfl rfl (g := g7) (u := .int .i64 0) (v := .int .i64 0) (by (repeat' (first | with_reducible (first | exact p7 | exact p8 | refine Two.keep ?_ hb5 | refine Two.keep ?_ hb6 | refine Two.keep ?_ hb7 | refine Two.keep ?_ hb8)))) ?_
         intro w9 p9 t9
         have s9 := t9.size
         refine hko hK (by (repeat' (first | with_reducible (first | exact hq | refine R8.drw ?_ | refine R8.keep ?_ hb5 | refine R8.keep ?_ hb6 | refine R8.keep ?_ hb7 | refine R8.keep ?_ hb8 | refine R8.turned ?_ t9 ?_ | refine R8.turned ?_ t10 ?_) | omega))) (fun _ => ?_)
         clear hK K
         refine wpAnyH_ready (rs := [19]) (by kernel_rfl) (by simp) ?_
         refine AllReadyH.cons (o := _) rfl (fun K hK => ?_) ?_
         ·refine step_store2 rfl (.tmp 13) (.tmp 54) rfl rfl rfl rfl rfl (g := g8) (u := .int .i64 0) (v := .int .i64 0) (by (refine Two.of_heap ?_ (t9.other g8 (by omega)); (repeat' (first | with_reducible (first | exact p7 | exact p8 | refine Two.keep ?_ hb5 | refine Two.keep ?_ hb6 | refine Two.keep ?_ hb7 | refine Two.keep ?_ hb8))))) ?_
          intro w10 p10 t10
          have s10 := t10.size
          refine hko hK (by (repeat' (first | with_reducible (first | exact hq | refine R8.drw ?_ | refine R8.keep ?_ hb5 | refine R8.keep ?_ hb6 | refine R8.keep ?_ hb7 | refine R8.keep ?_ hb8 | refine R8.turned ?_ t9 ?_ | refine R8.turned ?_ t10 ?_) | omega))) (fun _ => ?_)
          clear hK K
          refine wpAnyH_done (by kernel_rfl) ?_ _
          have e7 := p9.of_heap (t10.other g7 (by omega))
          have eB : Below wr.heap.size wr w10 := by (repeat' (first | with_reducible exact Below.refl _ _ | exact Nat.le_refl _ | with_reducible (first | refine Below.drew ?_ | refine Turned.below t10 ?_ ?_ | refine Turned.below t9 ?_ ?_ | refine Below.trans ?_ (hb5.mono ?_) | refine Below.trans ?_ (hb6.mono ?_) | refine Below.trans ?_ (hb7.mono ?_) | refine Below.trans ?_ (hb8.mono ?_)) | omega))
          clear hb5 hb6 hb7 hb8 t9 t10 p9 p7 p8
          go_wp2_with fail
          go_meet
          refine ⟨g7, g8, ?_, ?_, by omega, by omega, by omega, e7, p10, eB⟩
          all_goals rfl
         exact AllReadyH.nil
        exact AllReadyH.nil
       exact AllReadyH.nil
      refine AllReadyH.cons (o := _) rfl (fun K hK => ?_) ?_
      ·refine step_alloc2 12 rfl rfl rfl ?_
       intro g7 w7 hg7 p7 hb7
       (try change wr.heap.size ≤ g7 at hg7)
       have l7 := p7.lt
       have s7 := hb7.size; (try change wr.heap.size ≤ _ at s7)
       refine hko hK (by (repeat' (first | with_reducible (first | exact hq | refine R8.drw ?_ | refine R8.keep ?_ hb5 | refine R8.keep ?_ hb6 | refine R8.keep ?_ hb7 | refine R8.keep ?_ hb8 | refine R8.turned ?_ t9 ?_ | refine R8.turned ?_ t10 ?_) | omega))) (fun _ => ?_)
       clear hK K
       refine wpAnyH_ready (rs := [15]) (by kernel_rfl) (by simp) ?_
       refine AllReadyH.cons (o := _) rfl (fun K hK => ?_) ?_
       ·go_simp
        refine (H1.out _).mono ?_
        rintro e w6 ⟨rfl, hb6⟩
        (try go_wp2_with fail)
        have s6 := hb6.size; (try change wr.heap.size ≤ _ at s6)
        refine hko hK (by (repeat' (first | with_reducible (first | exact hq | refine R8.drw ?_ | refine R8.keep ?_ hb5 | refine R8.keep ?_ hb6 | refine R8.keep ?_ hb7 | refine R8.keep ?_ hb8 | refine R8.turned ?_ t9 ?_ | refine R8.turned ?_ t10 ?_) | omega))) (fun _ => ?_)
        clear hK K
        refine wpAnyH_ready (rs := [18]) (by kernel_rfl) (by simp) ?_
        refine AllReadyH.cons (o := _) rfl (fun K hK => ?_) ?_
        ·refine step_store2 rfl (.tmp 12) (.tmp 46) rfl rfl rfl rfl rfl (g := g7) (u := .int .i64 0) (v := .int .i64 0) (by (repeat' (first | with_reducible (first | exact p7 | exact p8 | refine Two.keep ?_ hb5 | refine Two.keep ?_ hb6 | refine Two.keep ?_ hb7 | refine Two.keep ?_ hb8)))) ?_
         intro w9 p9 t9
         have s9 := t9.size
         refine hko hK (by (repeat' (first | with_reducible (first | exact hq | refine R8.drw ?_ | refine R8.keep ?_ hb5 | refine R8.keep ?_ hb6 | refine R8.keep ?_ hb7 | refine R8.keep ?_ hb8 | refine R8.turned ?_ t9 ?_ | refine R8.turned ?_ t10 ?_) | omega))) (fun _ => ?_)
         clear hK K
         refine wpAnyH_ready (rs := [19]) (by kernel_rfl) (by simp) ?_
         refine AllReadyH.cons (o := _) rfl (fun K hK => ?_) ?_
         ·refine step_store2 rfl (.tmp 13) (.tmp 54) rfl rfl rfl rfl rfl (g := g8) (u := .int .i64 0) (v := .int .i64 0) (by (refine Two.of_heap ?_ (t9.other g8 (by omega)); (repeat' (first | with_reducible (first | exact p7 | exact p8 | refine Two.keep ?_ hb5 | refine Two.keep ?_ hb6 | refine Two.keep ?_ hb7 | refine Two.keep ?_ hb8))))) ?_
          intro w10 p10 t10
          have s10 := t10.size
          refine hko hK (by (repeat' (first | with_reducible (first | exact hq | refine R8.drw ?_ | refine R8.keep ?_ hb5 | refine R8.keep ?_ hb6 | refine R8.keep ?_ hb7 | refine R8.keep ?_ hb8 | refine R8.turned ?_ t9 ?_ | refine R8.turned ?_ t10 ?_) | omega))) (fun _ => ?_)
          clear hK K
          refine wpAnyH_done (by kernel_rfl) ?_ _
          have e7 := p9.of_heap (t10.other g7 (by omega))
          have eB : Below wr.heap.size wr w10 := by (repeat' (first | with_reducible exact Below.refl _ _ | exact Nat.le_refl _ | with_reducible (first | refine Below.drew ?_ | refine Turned.below t10 ?_ ?_ | refine Turned.below t9 ?_ ?_ | refine Below.trans ?_ (hb5.mono ?_) | refine Below.trans ?_ (hb6.mono ?_) | refine Below.trans ?_ (hb7.mono ?_) | refine Below.trans ?_ (hb8.mono ?_)) | omega))
          clear hb5 hb6 hb7 hb8 t9 t10 p9 p7 p8
          go_wp2_with fail
          go_meet
          refine ⟨g7, g8, ?_, ?_, by omega, by omega, by omega, e7, p10, eB⟩
          all_goals rfl
         exact AllReadyH.nil
        exact AllReadyH.nil
       exact AllReadyH.nil
      exact AllReadyH.nil
     exact AllReadyH.nil
    refine AllReadyH.cons (o := _) rfl (fun K hK => ?_) ?_
    ·refine step_alloc2 12 rfl rfl rfl ?_
     intro g7 w7 hg7 p7 hb7
     (try change wr.heap.size ≤ g7 at hg7)
     have l7 := p7.lt
     have s7 := hb7.size; (try change wr.heap.size ≤ _ at s7)
     refine hko hK (by (repeat' (first | with_reducible (first | exact hq | refine R8.drw ?_ | refine R8.keep ?_ hb5 | refine R8.keep ?_ hb6 | refine R8.keep ?_ hb7 | refine R8.keep ?_ hb8 | refine R8.turned ?_ t9 ?_ | refine R8.turned ?_ t10 ?_) | omega))) (fun _ => ?_)
     clear hK K
     refine wpAnyH_ready (rs := [7, 17]) (by kernel_rfl) (by simp) ?_
     refine AllReadyH.cons (o := _) rfl (fun K hK => ?_) ?_
     ·go_simp
      refine (H0.out _).mono ?_
      rintro e w5 ⟨rfl, hb5⟩
      (try go_wp2_with fail)
      have s5 := hb5.size; (try change wr.heap.size ≤ _ at s5)
      refine hko hK (by (repeat' (first | with_reducible (first | exact hq | refine R8.drw ?_ | refine R8.keep ?_ hb5 | refine R8.keep ?_ hb6 | refine R8.keep ?_ hb7 | refine R8.keep ?_ hb8 | refine R8.turned ?_ t9 ?_ | refine R8.turned ?_ t10 ?_) | omega))) (fun _ => ?_)
      clear hK K
      refine wpAnyH_ready (rs := [15, 17]) (by kernel_rfl) (by simp) ?_
      refine AllReadyH.cons (o := _) rfl (fun K hK => ?_) ?_
      ·go_simp
       refine (H1.out _).mono ?_
       rintro e w6 ⟨rfl, hb6⟩
       (try go_wp2_with fail)
       have s6 := hb6.size; (try change wr.heap.size ≤ _ at s6)
       refine hko hK (by (repeat' (first | with_reducible (first | exact hq | refine R8.drw ?_ | refine R8.keep ?_ hb5 | refine R8.keep ?_ hb6 | refine R8.keep ?_ hb7 | refine R8.keep ?_ hb8 | refine R8.turned ?_ t9 ?_ | refine R8.turned ?_ t10 ?_) | omega))) (fun _ => ?_)
       clear hK K
       refine wpAnyH_ready (rs := [17]) (by kernel_rfl) (by simp) ?_
       refine AllReadyH.cons (o := _) rfl (fun K hK => ?_) ?_
       ·refine step_alloc2 13 rfl rfl rfl ?_
        intro g8 w8 hg8 p8 hb8
        (try change wr.heap.size ≤ g8 at hg8)
        have l8 := p8.lt
        have s8 := hb8.size; (try change wr.heap.size ≤ _ at s8)
        refine hko hK (by (repeat' (first | with_reducible (first | exact hq | refine R8.drw ?_ | refine R8.keep ?_ hb5 | refine R8.keep ?_ hb6 | refine R8.keep ?_ hb7 | refine R8.keep ?_ hb8 | refine R8.turned ?_ t9 ?_ | refine R8.turned ?_ t10 ?_) | omega))) (fun _ => ?_)
        clear hK K
        refine wpAnyH_ready (rs := [18]) (by kernel_rfl) (by simp) ?_
        refine AllReadyH.cons (o := _) rfl (fun K hK => ?_) ?_
        ·refine step_store2 rfl (.tmp 12) (.tmp 46) rfl rfl rfl rfl rfl (g := g7) (u := .int .i64 0) (v := .int .i64 0) (by (repeat' (first | with_reducible (first | exact p7 | exact p8 | refine Two.keep ?_ hb5 | refine Two.keep ?_ hb6 | refine Two.keep ?_ hb7 | refine Two.keep ?_ hb8)))) ?_
         intro w9 p9 t9
         have s9 := t9.size
         refine hko hK (by (repeat' (first | with_reducible (first | exact hq | refine R8.drw ?_ | refine R8.keep ?_ hb5 | refine R8.keep ?_ hb6 | refine R8.keep ?_ hb7 | refine R8.keep ?_ hb8 | refine R8.turned ?_ t9 ?_ | refine R8.turned ?_ t10 ?_) | omega))) (fun _ => ?_)
         clear hK K
         refine wpAnyH_ready (rs := [19]) (by kernel_rfl) (by simp) ?_
         refine AllReadyH.cons (o := _) rfl (fun K hK => ?_) ?_
         ·refine step_store2 rfl (.tmp 13) (.tmp 54) rfl rfl rfl rfl rfl (g := g8) (u := .int .i64 0) (v := .int .i64 0) (by (refine Two.of_heap ?_ (t9.other g8 (by omega)); (repeat' (first | with_reducible (first | exact p7 | exact p8 | refine Two.keep ?_ hb5 | refine Two.keep ?_ hb6 | refine Two.keep ?_ hb7 | refine Two.keep ?_ hb8))))) ?_
          intro w10 p10 t10
          have s10 := t10.size
          refine hko hK (by (repeat' (first | with_reducible (first | exact hq | refine R8.drw ?_ | refine R8.keep ?_ hb5 | refine R8.keep ?_ hb6 | refine R8.keep ?_ hb7 | refine R8.keep ?_ hb8 | refine R8.turned ?_ t9 ?_ | refine R8.turned ?_ t10 ?_) | omega))) (fun _ => ?_)
          clear hK K
          refine wpAnyH_done (by kernel_rfl) ?_ _
          have e7 := p9.of_heap (t10.other g7 (by omega))
          have eB : Below wr.heap.size wr w10 := by (repeat' (first | with_reducible exact Below.refl _ _ | exact Nat.le_refl _ | with_reducible (first | refine Below.drew ?_ | refine Turned.below t10 ?_ ?_ | refine Turned.below t9 ?_ ?_ | refine Below.trans ?_ (hb5.mono ?_) | refine Below.trans ?_ (hb6.mono ?_) | refine Below.trans ?_ (hb7.mono ?_) | refine Below.trans ?_ (hb8.mono ?_)) | omega))
          clear hb5 hb6 hb7 hb8 t9 t10 p9 p7 p8
          go_wp2_with fail
          go_meet
          refine ⟨g7, g8, ?_, ?_, by omega, by omega, by omega, e7, p10, eB⟩
          all_goals rfl
         exact AllReadyH.nil
        exact AllReadyH.nil
       exact AllReadyH.nil
      refine AllReadyH.cons (o := _) rfl (fun K hK => ?_) ?_
      ·refine step_alloc2 13 rfl rfl rfl ?_
       intro g8 w8 hg8 p8 hb8
       (try change wr.heap.size ≤ g8 at hg8)
       have l8 := p8.lt
       have s8 := hb8.size; (try change wr.heap.size ≤ _ at s8)
       refine hko hK (by (repeat' (first | with_reducible (first | exact hq | refine R8.drw ?_ | refine R8.keep ?_ hb5 | refine R8.keep ?_ hb6 | refine R8.keep ?_ hb7 | refine R8.keep ?_ hb8 | refine R8.turned ?_ t9 ?_ | refine R8.turned ?_ t10 ?_) | omega))) (fun _ => ?_)
       clear hK K
       refine wpAnyH_ready (rs := [15]) (by kernel_rfl) (by simp) ?_
       refine AllReadyH.cons (o := _) rfl (fun K hK => ?_) ?_
       ·go_simp
        refine (H1.out _).mono ?_
        rintro e w6 ⟨rfl, hb6⟩
        (try go_wp2_with fail)
        have s6 := hb6.size; (try change wr.heap.size ≤ _ at s6)
        refine hko hK (by (repeat' (first | with_reducible (first | exact hq | refine R8.drw ?_ | refine R8.keep ?_ hb5 | refine R8.keep ?_ hb6 | refine R8.keep ?_ hb7 | refine R8.keep ?_ hb8 | refine R8.turned ?_ t9 ?_ | refine R8.turned ?_ t10 ?_) | omega))) (fun _ => ?_)
        clear hK K
        refine wpAnyH_ready (rs := [18]) (by kernel_rfl) (by simp) ?_
        refine AllReadyH.cons (o := _) rfl (fun K hK => ?_) ?_
        ·refine step_store2 rfl (.tmp 12) (.tmp 46) rfl rfl rfl rfl rfl (g := g7) (u := .int .i64 0) (v := .int .i64 0) (by (repeat' (first | with_reducible (first | exact p7 | exact p8 | refine Two.keep ?_ hb5 | refine Two.keep ?_ hb6 | refine Two.keep ?_ hb7 | refine Two.keep ?_ hb8)))) ?_
         intro w9 p9 t9
         have s9 := t9.size
         refine hko hK (by (repeat' (first | with_reducible (first | exact hq | refine R8.drw ?_ | refine R8.keep ?_ hb5 | refine R8.keep ?_ hb6 | refine R8.keep ?_ hb7 | refine R8.keep ?_ hb8 | refine R8.turned ?_ t9 ?_ | refine R8.turned ?_ t10 ?_) | omega))) (fun _ => ?_)
         clear hK K
         refine wpAnyH_ready (rs := [19]) (by kernel_rfl) (by simp) ?_
         refine AllReadyH.cons (o := _) rfl (fun K hK => ?_) ?_
         ·refine step_store2 rfl (.tmp 13) (.tmp 54) rfl rfl rfl rfl rfl (g := g8) (u := .int .i64 0) (v := .int .i64 0) (by (refine Two.of_heap ?_ (t9.other g8 (by omega)); (repeat' (first | with_reducible (first | exact p7 | exact p8 | refine Two.keep ?_ hb5 | refine Two.keep ?_ hb6 | refine Two.keep ?_ hb7 | refine Two.keep ?_ hb8))))) ?_
          intro w10 p10 t10
          have s10 := t10.size
          refine hko hK (by (repeat' (first | with_reducible (first | exact hq | refine R8.drw ?_ | refine R8.keep ?_ hb5 | refine R8.keep ?_ hb6 | refine R8.keep ?_ hb7 | refine R8.keep ?_ hb8 | refine R8.turned ?_ t9 ?_ | refine R8.turned ?_ t10 ?_) | omega))) (fun _ => ?_)
          clear hK K
          refine wpAnyH_done (by kernel_rfl) ?_ _
          have e7 := p9.of_heap (t10.other g7 (by omega))
          have eB : Below wr.heap.size wr w10 := by (repeat' (first | with_reducible exact Below.refl _ _ | exact Nat.le_refl _ | with_reducible (first | refine Below.drew ?_ | refine Turned.below t10 ?_ ?_ | refine Turned.below t9 ?_ ?_ | refine Below.trans ?_ (hb5.mono ?_) | refine Below.trans ?_ (hb6.mono ?_) | refine Below.trans ?_ (hb7.mono ?_) | refine Below.trans ?_ (hb8.mono ?_)) | omega))
          clear hb5 hb6 hb7 hb8 t9 t10 p9 p7 p8
          go_wp2_with fail
          go_meet
          refine ⟨g7, g8, ?_, ?_, by omega, by omega, by omega, e7, p10, eB⟩
          all_goals rfl
         exact AllReadyH.nil
        exact AllReadyH.nil
       exact AllReadyH.nil
      exact AllReadyH.nil
     refine AllReadyH.cons (o := _) rfl (fun K hK => ?_) ?_
     ·refine step_alloc2 13 rfl rfl rfl ?_
      intro g8 w8 hg8 p8 hb8
      (try change wr.heap.size ≤ g8 at hg8)
      have l8 := p8.lt
      have s8 := hb8.size; (try change wr.heap.size ≤ _ at s8)
      refine hko hK (by (repeat' (first | with_reducible (first | exact hq | refine R8.drw ?_ | refine R8.keep ?_ hb5 | refine R8.keep ?_ hb6 | refine R8.keep ?_ hb7 | refine R8.keep ?_ hb8 | refine R8.turned ?_ t9 ?_ | refine R8.turned ?_ t10 ?_) | omega))) (fun _ => ?_)
      clear hK K
      refine wpAnyH_ready (rs := [7]) (by kernel_rfl) (by simp) ?_
      refine AllReadyH.cons (o := _) rfl (fun K hK => ?_) ?_
      ·go_simp
       refine (H0.out _).mono ?_
       rintro e w5 ⟨rfl, hb5⟩
       (try go_wp2_with fail)
       have s5 := hb5.size; (try change wr.heap.size ≤ _ at s5)
       refine hko hK (by (repeat' (first | with_reducible (first | exact hq | refine R8.drw ?_ | refine R8.keep ?_ hb5 | refine R8.keep ?_ hb6 | refine R8.keep ?_ hb7 | refine R8.keep ?_ hb8 | refine R8.turned ?_ t9 ?_ | refine R8.turned ?_ t10 ?_) | omega))) (fun _ => ?_)
       clear hK K
       refine wpAnyH_ready (rs := [15]) (by kernel_rfl) (by simp) ?_
       refine AllReadyH.cons (o := _) rfl (fun K hK => ?_) ?_
       ·go_simp
        refine (H1.out _).mono ?_
        rintro e w6 ⟨rfl, hb6⟩
        (try go_wp2_with fail)
        have s6 := hb6.size; (try change wr.heap.size ≤ _ at s6)
        refine hko hK (by (repeat' (first | with_reducible (first | exact hq | refine R8.drw ?_ | refine R8.keep ?_ hb5 | refine R8.keep ?_ hb6 | refine R8.keep ?_ hb7 | refine R8.keep ?_ hb8 | refine R8.turned ?_ t9 ?_ | refine R8.turned ?_ t10 ?_) | omega))) (fun _ => ?_)
        clear hK K
        refine wpAnyH_ready (rs := [18]) (by kernel_rfl) (by simp) ?_
        refine AllReadyH.cons (o := _) rfl (fun K hK => ?_) ?_
        ·refine step_store2 rfl (.tmp 12) (.tmp 46) rfl rfl rfl rfl rfl (g := g7) (u := .int .i64 0) (v := .int .i64 0) (by (repeat' (first | with_reducible (first | exact p7 | exact p8 | refine Two.keep ?_ hb5 | refine Two.keep ?_ hb6 | refine Two.keep ?_ hb7 | refine Two.keep ?_ hb8)))) ?_
         intro w9 p9 t9
         have s9 := t9.size
         refine hko hK (by (repeat' (first | with_reducible (first | exact hq | refine R8.drw ?_ | refine R8.keep ?_ hb5 | refine R8.keep ?_ hb6 | refine R8.keep ?_ hb7 | refine R8.keep ?_ hb8 | refine R8.turned ?_ t9 ?_ | refine R8.turned ?_ t10 ?_) | omega))) (fun _ => ?_)
         clear hK K
         refine wpAnyH_ready (rs := [19]) (by kernel_rfl) (by simp) ?_
         refine AllReadyH.cons (o := _) rfl (fun K hK => ?_) ?_
         ·refine step_store2 rfl (.tmp 13) (.tmp 54) rfl rfl rfl rfl rfl (g := g8) (u := .int .i64 0) (v := .int .i64 0) (by (refine Two.of_heap ?_ (t9.other g8 (by omega)); (repeat' (first | with_reducible (first | exact p7 | exact p8 | refine Two.keep ?_ hb5 | refine Two.keep ?_ hb6 | refine Two.keep ?_ hb7 | refine Two.keep ?_ hb8))))) ?_
          intro w10 p10 t10
          have s10 := t10.size
          refine hko hK (by (repeat' (first | with_reducible (first | exact hq | refine R8.drw ?_ | refine R8.keep ?_ hb5 | refine R8.keep ?_ hb6 | refine R8.keep ?_ hb7 | refine R8.keep ?_ hb8 | refine R8.turned ?_ t9 ?_ | refine R8.turned ?_ t10 ?_) | omega))) (fun _ => ?_)
          clear hK K
          refine wpAnyH_done (by kernel_rfl) ?_ _
          have e7 := p9.of_heap (t10.other g7 (by omega))
          have eB : Below wr.heap.size wr w10 := by (repeat' (first | with_reducible exact Below.refl _ _ | exact Nat.le_refl _ | with_reducible (first | refine Below.drew ?_ | refine Turned.below t10 ?_ ?_ | refine Turned.below t9 ?_ ?_ | refine Below.trans ?_ (hb5.mono ?_) | refine Below.trans ?_ (hb6.mono ?_) | refine Below.trans ?_ (hb7.mono ?_) | refine Below.trans ?_ (hb8.mono ?_)) | omega))
          clear hb5 hb6 hb7 hb8 t9 t10 p9 p7 p8
          go_wp2_with fail
          go_meet
          refine ⟨g7, g8, ?_, ?_, by omega, by omega, by omega, e7, p10, eB⟩
          all_goals rfl
         exact AllReadyH.nil
        exact AllReadyH.nil
       exact AllReadyH.nil
      exact AllReadyH.nil
     exact AllReadyH.nil
    refine AllReadyH.cons (o := _) rfl (fun K hK => ?_) ?_
    ·refine step_alloc2 13 rfl rfl rfl ?_
     intro g8 w8 hg8 p8 hb8
     (try change wr.heap.size ≤ g8 at hg8)
     have l8 := p8.lt
     have s8 := hb8.size; (try change wr.heap.size ≤ _ at s8)
     refine hko hK (by (repeat' (first | with_reducible (first | exact hq | refine R8.drw ?_ | refine R8.keep ?_ hb5 | refine R8.keep ?_ hb6 | refine R8.keep ?_ hb7 | refine R8.keep ?_ hb8 | refine R8.turned ?_ t9 ?_ | refine R8.turned ?_ t10 ?_) | omega))) (fun _ => ?_)
     clear hK K
     refine wpAnyH_ready (rs := [7, 16]) (by kernel_rfl) (by simp) ?_
     refine AllReadyH.cons (o := _) rfl (fun K hK => ?_) ?_
     ·go_simp
      refine (H0.out _).mono ?_
      rintro e w5 ⟨rfl, hb5⟩
      (try go_wp2_with fail)
      have s5 := hb5.size; (try change wr.heap.size ≤ _ at s5)
      refine hko hK (by (repeat' (first | with_reducible (first | exact hq | refine R8.drw ?_ | refine R8.keep ?_ hb5 | refine R8.keep ?_ hb6 | refine R8.keep ?_ hb7 | refine R8.keep ?_ hb8 | refine R8.turned ?_ t9 ?_ | refine R8.turned ?_ t10 ?_) | omega))) (fun _ => ?_)
      clear hK K
      refine wpAnyH_ready (rs := [15, 16]) (by kernel_rfl) (by simp) ?_
      refine AllReadyH.cons (o := _) rfl (fun K hK => ?_) ?_
      ·go_simp
       refine (H1.out _).mono ?_
       rintro e w6 ⟨rfl, hb6⟩
       (try go_wp2_with fail)
       have s6 := hb6.size; (try change wr.heap.size ≤ _ at s6)
       refine hko hK (by (repeat' (first | with_reducible (first | exact hq | refine R8.drw ?_ | refine R8.keep ?_ hb5 | refine R8.keep ?_ hb6 | refine R8.keep ?_ hb7 | refine R8.keep ?_ hb8 | refine R8.turned ?_ t9 ?_ | refine R8.turned ?_ t10 ?_) | omega))) (fun _ => ?_)
       clear hK K
       refine wpAnyH_ready (rs := [16]) (by kernel_rfl) (by simp) ?_
       refine AllReadyH.cons (o := _) rfl (fun K hK => ?_) ?_
       ·refine step_alloc2 12 rfl rfl rfl ?_
        intro g7 w7 hg7 p7 hb7
        (try change wr.heap.size ≤ g7 at hg7)
        have l7 := p7.lt
        have s7 := hb7.size; (try change wr.heap.size ≤ _ at s7)
        refine hko hK (by (repeat' (first | with_reducible (first | exact hq | refine R8.drw ?_ | refine R8.keep ?_ hb5 | refine R8.keep ?_ hb6 | refine R8.keep ?_ hb7 | refine R8.keep ?_ hb8 | refine R8.turned ?_ t9 ?_ | refine R8.turned ?_ t10 ?_) | omega))) (fun _ => ?_)
        clear hK K
        refine wpAnyH_ready (rs := [18]) (by kernel_rfl) (by simp) ?_
        refine AllReadyH.cons (o := _) rfl (fun K hK => ?_) ?_
        ·refine step_store2 rfl (.tmp 12) (.tmp 46) rfl rfl rfl rfl rfl (g := g7) (u := .int .i64 0) (v := .int .i64 0) (by (repeat' (first | with_reducible (first | exact p7 | exact p8 | refine Two.keep ?_ hb5 | refine Two.keep ?_ hb6 | refine Two.keep ?_ hb7 | refine Two.keep ?_ hb8)))) ?_
         intro w9 p9 t9
         have s9 := t9.size
         refine hko hK (by (repeat' (first | with_reducible (first | exact hq | refine R8.drw ?_ | refine R8.keep ?_ hb5 | refine R8.keep ?_ hb6 | refine R8.keep ?_ hb7 | refine R8.keep ?_ hb8 | refine R8.turned ?_ t9 ?_ | refine R8.turned ?_ t10 ?_) | omega))) (fun _ => ?_)
         clear hK K
         refine wpAnyH_ready (rs := [19]) (by kernel_rfl) (by simp) ?_
         refine AllReadyH.cons (o := _) rfl (fun K hK => ?_) ?_
         ·refine step_store2 rfl (.tmp 13) (.tmp 54) rfl rfl rfl rfl rfl (g := g8) (u := .int .i64 0) (v := .int .i64 0) (by (refine Two.of_heap ?_ (t9.other g8 (by omega)); (repeat' (first | with_reducible (first | exact p7 | exact p8 | refine Two.keep ?_ hb5 | refine Two.keep ?_ hb6 | refine Two.keep ?_ hb7 | refine Two.keep ?_ hb8))))) ?_
          intro w10 p10 t10
          have s10 := t10.size
          refine hko hK (by (repeat' (first | with_reducible (first | exact hq | refine R8.drw ?_ | refine R8.keep ?_ hb5 | refine R8.keep ?_ hb6 | refine R8.keep ?_ hb7 | refine R8.keep ?_ hb8 | refine R8.turned ?_ t9 ?_ | refine R8.turned ?_ t10 ?_) | omega))) (fun _ => ?_)
          clear hK K
          refine wpAnyH_done (by kernel_rfl) ?_ _
          have e7 := p9.of_heap (t10.other g7 (by omega))
          have eB : Below wr.heap.size wr w10 := by (repeat' (first | with_reducible exact Below.refl _ _ | exact Nat.le_refl _ | with_reducible (first | refine Below.drew ?_ | refine Turned.below t10 ?_ ?_ | refine Turned.below t9 ?_ ?_ | refine Below.trans ?_ (hb5.mono ?_) | refine Below.trans ?_ (hb6.mono ?_) | refine Below.trans ?_ (hb7.mono ?_) | refine Below.trans ?_ (hb8.mono ?_)) | omega))
          clear hb5 hb6 hb7 hb8 t9 t10 p9 p7 p8
          go_wp2_with fail
          go_meet
          refine ⟨g7, g8, ?_, ?_, by omega, by omega, by omega, e7, p10, eB⟩
          all_goals rfl
         exact AllReadyH.nil
        exact AllReadyH.nil
       exact AllReadyH.nil
      refine AllReadyH.cons (o := _) rfl (fun K hK => ?_) ?_
      ·refine step_alloc2 12 rfl rfl rfl ?_
       intro g7 w7 hg7 p7 hb7
       (try change wr.heap.size ≤ g7 at hg7)
       have l7 := p7.lt
       have s7 := hb7.size; (try change wr.heap.size ≤ _ at s7)
       refine hko hK (by (repeat' (first | with_reducible (first | exact hq | refine R8.drw ?_ | refine R8.keep ?_ hb5 | refine R8.keep ?_ hb6 | refine R8.keep ?_ hb7 | refine R8.keep ?_ hb8 | refine R8.turned ?_ t9 ?_ | refine R8.turned ?_ t10 ?_) | omega))) (fun _ => ?_)
       clear hK K
       refine wpAnyH_ready (rs := [15]) (by kernel_rfl) (by simp) ?_
       refine AllReadyH.cons (o := _) rfl (fun K hK => ?_) ?_
       ·go_simp
        refine (H1.out _).mono ?_
        rintro e w6 ⟨rfl, hb6⟩
        (try go_wp2_with fail)
        have s6 := hb6.size; (try change wr.heap.size ≤ _ at s6)
        refine hko hK (by (repeat' (first | with_reducible (first | exact hq | refine R8.drw ?_ | refine R8.keep ?_ hb5 | refine R8.keep ?_ hb6 | refine R8.keep ?_ hb7 | refine R8.keep ?_ hb8 | refine R8.turned ?_ t9 ?_ | refine R8.turned ?_ t10 ?_) | omega))) (fun _ => ?_)
        clear hK K
        refine wpAnyH_ready (rs := [18]) (by kernel_rfl) (by simp) ?_
        refine AllReadyH.cons (o := _) rfl (fun K hK => ?_) ?_
        ·refine step_store2 rfl (.tmp 12) (.tmp 46) rfl rfl rfl rfl rfl (g := g7) (u := .int .i64 0) (v := .int .i64 0) (by (repeat' (first | with_reducible (first | exact p7 | exact p8 | refine Two.keep ?_ hb5 | refine Two.keep ?_ hb6 | refine Two.keep ?_ hb7 | refine Two.keep ?_ hb8)))) ?_
         intro w9 p9 t9
         have s9 := t9.size
         refine hko hK (by (repeat' (first | with_reducible (first | exact hq | refine R8.drw ?_ | refine R8.keep ?_ hb5 | refine R8.keep ?_ hb6 | refine R8.keep ?_ hb7 | refine R8.keep ?_ hb8 | refine R8.turned ?_ t9 ?_ | refine R8.turned ?_ t10 ?_) | omega))) (fun _ => ?_)
         clear hK K
         refine wpAnyH_ready (rs := [19]) (by kernel_rfl) (by simp) ?_
         refine AllReadyH.cons (o := _) rfl (fun K hK => ?_) ?_
         ·refine step_store2 rfl (.tmp 13) (.tmp 54) rfl rfl rfl rfl rfl (g := g8) (u := .int .i64 0) (v := .int .i64 0) (by (refine Two.of_heap ?_ (t9.other g8 (by omega)); (repeat' (first | with_reducible (first | exact p7 | exact p8 | refine Two.keep ?_ hb5 | refine Two.keep ?_ hb6 | refine Two.keep ?_ hb7 | refine Two.keep ?_ hb8))))) ?_
          intro w10 p10 t10
          have s10 := t10.size
          refine hko hK (by (repeat' (first | with_reducible (first | exact hq | refine R8.drw ?_ | refine R8.keep ?_ hb5 | refine R8.keep ?_ hb6 | refine R8.keep ?_ hb7 | refine R8.keep ?_ hb8 | refine R8.turned ?_ t9 ?_ | refine R8.turned ?_ t10 ?_) | omega))) (fun _ => ?_)
          clear hK K
          refine wpAnyH_done (by kernel_rfl) ?_ _
          have e7 := p9.of_heap (t10.other g7 (by omega))
          have eB : Below wr.heap.size wr w10 := by (repeat' (first | with_reducible exact Below.refl _ _ | exact Nat.le_refl _ | with_reducible (first | refine Below.drew ?_ | refine Turned.below t10 ?_ ?_ | refine Turned.below t9 ?_ ?_ | refine Below.trans ?_ (hb5.mono ?_) | refine Below.trans ?_ (hb6.mono ?_) | refine Below.trans ?_ (hb7.mono ?_) | refine Below.trans ?_ (hb8.mono ?_)) | omega))
          clear hb5 hb6 hb7 hb8 t9 t10 p9 p7 p8
          go_wp2_with fail
          go_meet
          refine ⟨g7, g8, ?_, ?_, by omega, by omega, by omega, e7, p10, eB⟩
          all_goals rfl
         exact AllReadyH.nil
        exact AllReadyH.nil
       exact AllReadyH.nil
      exact AllReadyH.nil
     refine AllReadyH.cons (o := _) rfl (fun K hK => ?_) ?_
     ·refine step_alloc2 12 rfl rfl rfl ?_
      intro g7 w7 hg7 p7 hb7
      (try change wr.heap.size ≤ g7 at hg7)
      have l7 := p7.lt
      have s7 := hb7.size; (try change wr.heap.size ≤ _ at s7)
      refine hko hK (by (repeat' (first | with_reducible (first | exact hq | refine R8.drw ?_ | refine R8.keep ?_ hb5 | refine R8.keep ?_ hb6 | refine R8.keep ?_ hb7 | refine R8.keep ?_ hb8 | refine R8.turned ?_ t9 ?_ | refine R8.turned ?_ t10 ?_) | omega))) (fun _ => ?_)
      clear hK K
      refine wpAnyH_ready (rs := [7]) (by kernel_rfl) (by simp) ?_
      refine AllReadyH.cons (o := _) rfl (fun K hK => ?_) ?_
      ·go_simp
       refine (H0.out _).mono ?_
       rintro e w5 ⟨rfl, hb5⟩
       (try go_wp2_with fail)
       have s5 := hb5.size; (try change wr.heap.size ≤ _ at s5)
       refine hko hK (by (repeat' (first | with_reducible (first | exact hq | refine R8.drw ?_ | refine R8.keep ?_ hb5 | refine R8.keep ?_ hb6 | refine R8.keep ?_ hb7 | refine R8.keep ?_ hb8 | refine R8.turned ?_ t9 ?_ | refine R8.turned ?_ t10 ?_) | omega))) (fun _ => ?_)
       clear hK K
       refine wpAnyH_ready (rs := [15]) (by kernel_rfl) (by simp) ?_
       refine AllReadyH.cons (o := _) rfl (fun K hK => ?_) ?_
       ·go_simp
        refine (H1.out _).mono ?_
        rintro e w6 ⟨rfl, hb6⟩
        (try go_wp2_with fail)
        have s6 := hb6.size; (try change wr.heap.size ≤ _ at s6)
        refine hko hK (by (repeat' (first | with_reducible (first | exact hq | refine R8.drw ?_ | refine R8.keep ?_ hb5 | refine R8.keep ?_ hb6 | refine R8.keep ?_ hb7 | refine R8.keep ?_ hb8 | refine R8.turned ?_ t9 ?_ | refine R8.turned ?_ t10 ?_) | omega))) (fun _ => ?_)
        clear hK K
        refine wpAnyH_ready (rs := [18]) (by kernel_rfl) (by simp) ?_
        refine AllReadyH.cons (o := _) rfl (fun K hK => ?_) ?_
        ·refine step_store2 rfl (.tmp 12) (.tmp 46) rfl rfl rfl rfl rfl (g := g7) (u := .int .i64 0) (v := .int .i64 0) (by (repeat' (first | with_reducible (first | exact p7 | exact p8 | refine Two.keep ?_ hb5 | refine Two.keep ?_ hb6 | refine Two.keep ?_ hb7 | refine Two.keep ?_ hb8)))) ?_
         intro w9 p9 t9
         have s9 := t9.size
         refine hko hK (by (repeat' (first | with_reducible (first | exact hq | refine R8.drw ?_ | refine R8.keep ?_ hb5 | refine R8.keep ?_ hb6 | refine R8.keep ?_ hb7 | refine R8.keep ?_ hb8 | refine R8.turned ?_ t9 ?_ | refine R8.turned ?_ t10 ?_) | omega))) (fun _ => ?_)
         clear hK K
         refine wpAnyH_ready (rs := [19]) (by kernel_rfl) (by simp) ?_
         refine AllReadyH.cons (o := _) rfl (fun K hK => ?_) ?_
         ·refine step_store2 rfl (.tmp 13) (.tmp 54) rfl rfl rfl rfl rfl (g := g8) (u := .int .i64 0) (v := .int .i64 0) (by (refine Two.of_heap ?_ (t9.other g8 (by omega)); (repeat' (first | with_reducible (first | exact p7 | exact p8 | refine Two.keep ?_ hb5 | refine Two.keep ?_ hb6 | refine Two.keep ?_ hb7 | refine Two.keep ?_ hb8))))) ?_
          intro w10 p10 t10
          have s10 := t10.size
          refine hko hK (by (repeat' (first | with_reducible (first | exact hq | refine R8.drw ?_ | refine R8.keep ?_ hb5 | refine R8.keep ?_ hb6 | refine R8.keep ?_ hb7 | refine R8.keep ?_ hb8 | refine R8.turned ?_ t9 ?_ | refine R8.turned ?_ t10 ?_) | omega))) (fun _ => ?_)
          clear hK K
          refine wpAnyH_done (by kernel_rfl) ?_ _
          have e7 := p9.of_heap (t10.other g7 (by omega))
          have eB : Below wr.heap.size wr w10 := by (repeat' (first | with_reducible exact Below.refl _ _ | exact Nat.le_refl _ | with_reducible (first | refine Below.drew ?_ | refine Turned.below t10 ?_ ?_ | refine Turned.below t9 ?_ ?_ | refine Below.trans ?_ (hb5.mono ?_) | refine Below.trans ?_ (hb6.mono ?_) | refine Below.trans ?_ (hb7.mono ?_) | refine Below.trans ?_ (hb8.mono ?_)) | omega))
          clear hb5 hb6 hb7 hb8 t9 t10 p9 p7 p8
          go_wp2_with fail
          go_meet
          refine ⟨g7, g8, ?_, ?_, by omega, by omega, by omega, e7, p10, eB⟩
          all_goals rfl
         exact AllReadyH.nil
        exact AllReadyH.nil
       exact AllReadyH.nil
      exact AllReadyH.nil
     exact AllReadyH.nil
    exact AllReadyH.nil

   case rest =>
    obtain ⟨g7, g8, rfl, rfl, hne, hl7, hl8, p7, p8, eB⟩ := hcut
    obtain ⟨c70, c71, f70, f71⟩ := p7
    obtain ⟨c80, c81, f80, f81⟩ := p8
    have Ho2 := Lib.hid (own_keep Ho.out eB)
    have HB3 := Lib.hid (HBr.out.trans (eB.mono HBr.out.size))
    have hBz := HB3.out.size
    clear H0 H1 Ho HBr eB hq
    go_upto_region 13 with fail
    go_cut [69] (fun s20 wx => s20 = .bool tkb ∧ wx = wc)
    case first =>
     rcases (by omega : C0 < 0 ∨ 0 ≤ C0) with q0 | q0
     ·have d0 : decide (C0 < 0) = true := by simpa using q0
      go_wp2_with fail
      go_meet
      exact ⟨by simp [← htk, pick1, d0], rfl⟩
     ·have d0 : decide (C0 < 0) = false := by simpa using q0
      rcases (by omega : C1 < 0 ∨ 0 ≤ C1) with q1 | q1
      ·have d1 : decide (0 ≤ C1) = false := by simpa using q1
       go_wp2_with fail
       go_meet
       exact ⟨by simp [← htk, pick1, d0, d1], rfl⟩
      ·have d1 : decide (0 ≤ C1) = true := by simpa using q1
       go_wp2_with fail
       go_meet
       exact ⟨by simp [← htk, pick1, d0, d1], rfl⟩
    case rest =>
     obtain ⟨rfl, rfl⟩ := hcut
     clear c70 c71 f70 f71 c80 c81 f80 f81 htk
     have hk9 : i ≤ 900000 := by omega
     cases tkb
     ·have HN0 : Hid (vrun (bs s) (i + 1) (u ++ [0]) (cnx t 0)) := HN
      go_wp2_with (first | (at_builtin; refine wpList_app1 (x := 48) rfl _ _ rfl rfl rfl Ho2.out hk9 hBz ?_; intro v1 w3 ho1 hb1) | (go_at_call 94; refine (vnext_any _ t 0 ht4 (by omega)).mono ?_; rintro e w' ⟨rfl, rfl⟩))
      go_roundw
      case rel => exact ⟨i + 1, cnx t 0, u ++ [0], by omega, rfl, by go_num, HN0.out, by unfold bitsS at ho1 ⊢; simpa using ho1, HB3.out.trans hb1⟩
      case measure => simp [intOf]; omega
     ·have HN1 : Hid (vrun (bs s) (i + 1) (u ++ [1]) (cnx t 1)) := HN
      go_wp2_with (first | (at_builtin; refine wpList_app1 (x := 49) rfl _ _ rfl rfl rfl Ho2.out hk9 hBz ?_; intro v1 w3 ho1 hb1) | (go_at_call 94; refine (vnext_any _ t 1 ht4 (by omega)).mono ?_; rintro e w' ⟨rfl, rfl⟩))
      go_roundw
      case rel => exact ⟨i + 1, cnx t 1, u ++ [1], by omega, rfl, by go_num, HN1.out, by unfold bitsS at ho1 ⊢; simpa using ho1, HB3.out.trans hb1⟩
      case measure => simp [intOf]; omega
  ·obtain rfl : i = m := by omega
   obtain ⟨q, hq⟩ := hSr.at' 0 (by omega) (by omega)
   have c0 : wr.cell? ⟨G, 0, none⟩ = some (.int .i64 (vst (bs s) 0)) := hq 0 _ rfl
   have c1 : wr.cell? ⟨G, 1, none⟩ = some (.int .i64 (q 0)) := hq 1 _ rfl
   have hv := BytesAt.of_own Ho.out
   have hbu : vdec i (bs s) 0 = u := by
    have h4 := hr.2.2.2 0
    rw [Nat.add_zero] at h4
    rw [h4]
    unfold vdec
    simp
   obtain ⟨A, cc, rfl, hc1, hc2, hc3⟩ := hv
   have hcs := run_toStr (W := wr.drew) ⟨A, cc, rfl, hc1, hc2, hc3⟩ rfl
   have HR := Lib.hid (HB2.out.trans (HBr.out.mono HB2.out.size))
   have Hbu := Lib.hid hbu
   have b0 : (0 : Int) < i + 2 + 1 := by omega
   clear hc3 hr hq hbu hSr Ho hmk
   go_upto_region 18 with fail
   refine wp_region_held_drew (S := (fun w' => (convert 100 9 (.slice A (bitsS u).length cc)).run Tryz.prog w' = .ok (.string (strB (bitsS u))) w' ∧ w'.cell? ⟨G, 0, none⟩ = some (.int .i64 (vst (bs s) 0)) ∧ w'.cell? ⟨G, 1, none⟩ = some (.int .i64 (q 0)))) (by kernel_rfl) ?_ (fun hHeld => ?_)
   ·exact ⟨hcs, c0, c1⟩
   refine tk 0 ?_
   refine tk 1 ?_
   refine tk 2 ?_
   refine tk 3 ?_
   refine tk 4 ?_
   refine tk 5 ?_
   refine tk 6 ?_
   refine tk 7 ?_
   refine tk 8 ?_
   refine tk 9 ?_
   refine tk 10 ?_
   refine tk 11 ?_
   refine tk 12 ?_
   refine tk 13 ?_
   refine tk 14 ?_
   refine tk 15 ?_
   refine tk 16 ?_
   refine wpAnyH_done (by kernel_rfl) ?_ _
   go_wp2
   rw [Hbu.out]
   exact bodyPost_ret (v := .tuple #[.string (strB (bitsS u)), .int .i64 (vst (bs s) 0), .bool (q 0 == 1), .int .i64 0]) (by simp [results, Tryz.results52, go_sem]) rfl ⟨⟨_, rfl⟩, HR.out.drew⟩


end Go.Proofs.YtnlnmfkmbpihhaaGreatDoor
