/-
  WALK: stelelaw14.awake.
-/
import Derived.Test.YtjennpcadjdnlaaGreatDoorScF
import Derived.Test.YtjennpcadjdnlaaGreatDoorScG
import Derived.Test.YtjennpcadjdnlaaGreatDoorShelf
namespace Go.Proofs.YtjennpcadjdnlaaGreatDoor
open Go.RowKit

theorem ch0_ok : fE (chFrm 0 97) = 0 := by decide +kernel
theorem ch1_ok : fE (chFrm 1 98) = 0 := by decide +kernel
theorem ch_small (x c : Nat) : (chFrm x c).small := by unfold Frm.small chFrm; dsimp only; omega
/-- A sighting's cell. -/
theorem SgtsAt.at {W : World} {v : Value} {xs : List Sgt} (h : SgtsAt W v xs) (hn : xs ≠ []) : ∃ g c, v = .slice (some ⟨g, 0, none⟩) xs.length c ∧ ∀ i x, xs[i]? = some x → ∀ j u, x.cells[j]? = some u → W.cell? ⟨g, i * 14 + j, none⟩ = some u := by
  unfold SgtsAt at h
  have h2 := h.2
  rcases h2 with ⟨_, h0⟩ | ⟨g, c, cur, rfl, _⟩
  · exact absurd (List.length_eq_zero_iff.1 h0) hn
  · refine ⟨g, c, rfl, fun i x hx j u hu => ?_⟩
    have hi := (List.getElem?_eq_some_iff.1 hx).1
    have hj := (List.getElem?_eq_some_iff.1 hu).1
    rw [Sgt.cells_len] at hj
    rw [World.ownsRow.cellAt h (i * 14 + j) (by omega)]
    have hf : ∀ (ys : List Sgt) (k : Nat), ys[k]? = some x → (ys.flatMap Sgt.cells)[k * 14 + j]? = x.cells[j]? := by
      intro ys
      induction ys with
      | nil => intro k hk; cases hk
      | cons y r ih =>
        intro k hk
        rw [List.flatMap_cons]
        cases k with
        | zero => cases hk; rw [List.getElem?_append_left (by rw [Sgt.cells_len]; omega), Nat.zero_mul, Nat.zero_add]
        | succ k =>
          rw [List.getElem?_append_right (by rw [Sgt.cells_len]; omega), Sgt.cells_len, show (k + 1) * 14 + j - 14 = k * 14 + j by omega]
          exact ih k hk
    rw [hf xs i hx, hu]
theorem msgs_of : ∀ {fs : List Frm}, (∀ f ∈ fs, fE f = 0 ∧ f.small) → Msgs (fs.map msgOf) fs
  | [], _ => .nil
  | f :: _, h => .cons (msgOf_msg (h f List.mem_cons_self).1 (h f List.mem_cons_self).2).1 (msgs_of fun g hg => h g (List.mem_cons_of_mem _ hg))
/-- Two frames just laid. -/
theorem FrmsAt.two {W : World} {b : Nat} {f g : Frm} (h : Blk W b 26 (f.cells ++ g.cells)) : FrmsAt W (.slice (some ⟨b, 0, none⟩) 2 2) [f, g] := by
  refine ⟨_, 2, rfl, Nat.le_refl _, by omega, fun i x hx => ⟨b, 0, rfl, fun j u hu => ?_⟩⟩
  have hj : j < 9 := (List.getElem?_eq_some_iff.1 hu).1
  rw [Nat.zero_add]
  match i with
  | 0 =>
    cases hx
    refine h.cell ?_
    rw [Nat.zero_mul, Nat.zero_add, List.getElem?_append_left (show j < 9 from hj)]
    exact hu
  | 1 =>
    cases hx
    refine h.cell ?_
    rw [List.getElem?_append_right (show 9 ≤ 1 * 9 + j by omega), show 1 * 9 + j - f.cells.length = j from by show 1 * 9 + j - 9 = j; omega]
    exact hu
  | i + 2 => cases hx

def awakeS : ByteArray := joinS [chFrm 0 97, chFrm 1 98]
theorem awake_ok : ∀ f ∈ [chFrm 0 97, chFrm 1 98], fE f = 0 ∧ f.small := by
  intro f hf
  rcases List.mem_cons.1 hf with rfl | hf
  · exact ⟨ch0_ok, ch_small _ _⟩
  · rw [List.mem_singleton.1 hf]
    exact ⟨ch1_ok, ch_small _ _⟩
theorem awake_scan : awakeS.size ≤ 1000000 ∧ scanL awakeS 0 = [⟨0, 0, chFrm 0 97, qua0⟩, ⟨0, 852, chFrm 1 98, qua0⟩] := by
  have h0 : joinE [chFrm 0 97, chFrm 1 98] = 0 := joinE_all fun f hf => (awake_ok f hf).1
  have e : awakeS = strB (flatC ([chFrm 0 97, chFrm 1 98].map msgOf)) := by unfold awakeS joinS; rw [if_pos h0]
  rw [e]
  exact ⟨by rw [strB_size, flatC_len]; simp, by rw [scan_frames (msgs_of awake_ok)]; rfl⟩

set_option maxRecDepth 100000 in
set_option maxHeartbeats 8000000 in
theorem awake_any (w : World) : Calls Tryz.prog 19 #[] w fun e w' => e = .returned (.bool true) ∧ Below w.heap.size w w' := by
  have HM0 : Hid (∀ W : World, Calls Tryz.prog 31 #[.int .i64 0, .int .i64 1, .int .i64 0, .agg #[.int .i64 1, .int .i64 0], .int .u32 7, .string ⟨#[97]⟩] W fun e w' => e = .returned (chFrm 0 97).v ∧ Below W.heap.size W w') := Lib.hid (fun W => rmake_ch W 0 97 (by decide))
  have HM1 : Hid (∀ W : World, Calls Tryz.prog 31 #[.int .i64 0, .int .i64 1, .int .i64 1, .agg #[.int .i64 1, .int .i64 0], .int .u32 7, .string ⟨#[98]⟩] W fun e w' => e = .returned (chFrm 1 98).v ∧ Below W.heap.size W w') := Lib.hid (fun W => rmake_ch W 1 98 (by decide))
  have HJ : Hid (∀ (W : World) (v : Value), FrmsAt W v [chFrm 0 97, chFrm 1 98] → Calls Tryz.prog 23 #[v] W fun e w' => e = .returned (.tuple #[.string awakeS, .int .i64 0]) ∧ Below W.heap.size W w') := Lib.hid (fun W v hv => by
    have h := scjoin_any W v _ hv (by decide) fun f hf => (awake_ok f hf).2
    rw [joinE_all fun f hf => (awake_ok f hf).1] at h
    exact h)
  have HP : Hid (∀ W : World, Calls Tryz.prog 21 #[.string awakeS] W fun e w' => ∃ v, e = .returned v ∧ SgtsAt w' v [⟨0, 0, chFrm 0 97, qua0⟩, ⟨0, 852, chFrm 1 98, qua0⟩] ∧ Below W.heap.size W w') := Lib.hid (fun W => by
    have h := scpiece_any W awakeS awake_scan.1
    rw [awake_scan.2] at h
    exact h)
  have HF : Hid (∀ W : World, FrmsAt (W.alloc (.cells ((chFrm 0 97).cells ++ (chFrm 1 98).cells).toArray 26)) (.slice (some ⟨W.heap.size, 0, none⟩) 2 2) [chFrm 0 97, chFrm 1 98]) := Lib.hid (fun W => FrmsAt.two (Blk.new W 26 _))
  generalize awakeS = S at *
  unfold chFrm at *
  unfold Frm.v frV at HM0 HM1
  dsimp only [Frm.cells, List.cons_append, List.nil_append] at HM0 HM1 HF
  generalize strB (chL 97) = Z0 at *
  generalize strB (chL 98) = Z1 at *
  go_enter Tryz.func19, Tryz.ntmps19
  go_upto_region 2 with fail
  have HL : Hid ((w.alloc (.cells #[.int .i64 1, .int .i64 0] 23)).cell? ⟨w.heap.size, 0, none⟩ = some (.int .i64 1) ∧ (w.alloc (.cells #[.int .i64 1, .int .i64 0] 23)).cell? ⟨w.heap.size, 1, none⟩ = some (.int .i64 0)) := Lib.hid (by
    have h := Blk.new w 23 [.int .i64 1, .int .i64 0]
    exact ⟨h.cell (i := 0) rfl, h.cell (i := 1) rfl⟩)
  have HBz := Lib.hid ((Below.refl w.heap.size w).alloc (Nat.le_refl _) (.cells #[.int .i64 1, .int .i64 0] 23))
  generalize w.alloc (.cells #[.int .i64 1, .int .i64 0] 23) = wz at *
  go_cut [2, 3] (fun s2 s3 wx => s2 = .string S ∧ s3 = .int .i64 0 ∧ Below w.heap.size w wx)
  case first =>
    refine wp_region_held_drew (S := (fun W => W.cell? ⟨w.heap.size, 0, none⟩ = some (.int .i64 1) ∧ W.cell? ⟨w.heap.size, 1, none⟩ = some (.int .i64 0))) (by kernel_rfl) ?_ (fun hHeld => ?_)
    · (refine ⟨?_, ?_⟩ <;> (repeat' (first | with_reducible exact HL.out.1 | with_reducible exact HL.out.2 | with_reducible refine cell_below hb5 ?_ | with_reducible refine cell_below hb3 ?_ | with_reducible refine cell_below hb1 ?_ | with_reducible refine cell_below ((Below.refl _ _).alloc (Nat.le_refl _) _) ?_ | exact HL.out.1 | exact HL.out.2)))
    refine wpAnyH_take (i := 0) (oi := _) (v := ?va1) rfl (by kernel_rfl) (by kernel_rfl) (by kernel_rfl) (fun _ _ _ h => h) (Or.inl ⟨by rfl, ?hya1⟩) (by assumption) ?resta1
    case hya1 => ((intro W hSw; (try dsimp only at hSw); go_simp; try with_reducible rfl))
    try simp only [Act.put, List.setIfInBounds_toArray]
    try simp only [List.getElem_toArray, List.getElem_cons_zero]
    refine wpAnyH_take (i := 2) (oi := _) (v := ?va2) rfl (by kernel_rfl) (by kernel_rfl) (by kernel_rfl) (fun _ _ _ h => h) (Or.inl ⟨by rfl, ?hya2⟩) (by assumption) ?resta2
    case hya2 => ((intro W hSw; (try dsimp only at hSw); go_simp; try with_reducible rfl))
    try simp only [Act.put, List.setIfInBounds_toArray, List.set_cons_zero, List.set_cons_succ]
    try simp only [List.getElem_toArray, List.getElem_cons_zero, List.getElem_cons_succ]
    refine wpAnyH_ready (rs := [1]) (by kernel_rfl) (by simp) ?_
    refine AllReadyH.cons (o := _) rfl (fun K hK => ?_) ?_
    · go_simp
      refine (HM0.out _).mono ?_
      rintro e w1 ⟨rfl, hb1⟩
      (try go_wp2_with fail)
      refine hK.out _ _ (by (refine ⟨?_, ?_⟩ <;> (repeat' (first | with_reducible exact HL.out.1 | with_reducible exact HL.out.2 | with_reducible refine cell_below hb5 ?_ | with_reducible refine cell_below hb3 ?_ | with_reducible refine cell_below hb1 ?_ | with_reducible refine cell_below ((Below.refl _ _).alloc (Nat.le_refl _) _) ?_ | exact HL.out.1 | exact HL.out.2)))) (fun _ => ?_)
      clear hK K
      try simp only [Act.put, List.setIfInBounds_toArray, List.set_cons_zero, List.set_cons_succ]
      try simp only [List.getElem_toArray, List.getElem_cons_zero, List.getElem_cons_succ]
      refine wpAnyH_ready (rs := [3]) (by kernel_rfl) (by simp) ?_
      refine AllReadyH.cons (o := _) rfl (fun K hK => ?_) ?_
      · go_simp
        refine (HM1.out _).mono ?_
        rintro e w3 ⟨rfl, hb3⟩
        (try go_wp2_with fail)
        refine hK.out _ _ (by (refine ⟨?_, ?_⟩ <;> (repeat' (first | with_reducible exact HL.out.1 | with_reducible exact HL.out.2 | with_reducible refine cell_below hb5 ?_ | with_reducible refine cell_below hb3 ?_ | with_reducible refine cell_below hb1 ?_ | with_reducible refine cell_below ((Below.refl _ _).alloc (Nat.le_refl _) _) ?_ | exact HL.out.1 | exact HL.out.2)))) (fun _ => ?_)
        clear hK K
        try simp only [Act.put, List.setIfInBounds_toArray, List.set_cons_zero, List.set_cons_succ]
        try simp only [List.getElem_toArray, List.getElem_cons_zero, List.getElem_cons_succ]
        refine wpAnyH_ready (rs := [4]) (by kernel_rfl) (by simp) ?_
        refine AllReadyH.cons (o := _) rfl (fun K hK => ?_) ?_
        · go_simp
          refine hK.out _ _ (by (refine ⟨?_, ?_⟩ <;> (repeat' (first | with_reducible exact HL.out.1 | with_reducible exact HL.out.2 | with_reducible refine cell_below hb5 ?_ | with_reducible refine cell_below hb3 ?_ | with_reducible refine cell_below hb1 ?_ | with_reducible refine cell_below ((Below.refl _ _).alloc (Nat.le_refl _) _) ?_ | exact HL.out.1 | exact HL.out.2)))) (fun _ => ?_)
          clear hK K
          try simp only [Act.put, List.setIfInBounds_toArray, List.set_cons_zero, List.set_cons_succ]
          try simp only [List.getElem_toArray, List.getElem_cons_zero, List.getElem_cons_succ]
          refine wpAnyH_ready (rs := [5]) (by kernel_rfl) (by simp) ?_
          refine AllReadyH.cons (o := _) rfl (fun K hK => ?_) ?_
          · go_simp
            refine (HJ.out _ _ (HF.out _)).mono ?_
            rintro e w5 ⟨rfl, hb5⟩
            (try go_wp2_with fail)
            refine hK.out _ _ (by (refine ⟨?_, ?_⟩ <;> (repeat' (first | with_reducible exact HL.out.1 | with_reducible exact HL.out.2 | with_reducible refine cell_below hb5 ?_ | with_reducible refine cell_below hb3 ?_ | with_reducible refine cell_below hb1 ?_ | with_reducible refine cell_below ((Below.refl _ _).alloc (Nat.le_refl _) _) ?_ | exact HL.out.1 | exact HL.out.2)))) (fun _ => ?_)
            clear hK K
            try simp only [Act.put, List.setIfInBounds_toArray, List.set_cons_zero, List.set_cons_succ]
            try simp only [List.getElem_toArray, List.getElem_cons_zero, List.getElem_cons_succ]
            refine wpAnyH_take (i := 6) (oi := _) (v := ?va3) rfl (by kernel_rfl) (by kernel_rfl) (by kernel_rfl) (fun _ _ _ h => h) (Or.inl ⟨by rfl, ?hya3⟩) (by assumption) ?resta3
            case hya3 => ((intro W hSw; (try dsimp only at hSw); go_simp; try with_reducible rfl))
            try simp only [Act.put, List.setIfInBounds_toArray]
            try simp only [List.getElem_toArray, List.getElem_cons_zero, List.getElem_cons_succ]
            refine wpAnyH_take (i := 7) (oi := _) (v := ?va4) rfl (by kernel_rfl) (by kernel_rfl) (by kernel_rfl) (fun _ _ _ h => h) (Or.inl ⟨by rfl, ?hya4⟩) (by assumption) ?resta4
            case hya4 => ((intro W hSw; (try dsimp only at hSw); go_simp; try with_reducible rfl))
            try simp only [Act.put, List.setIfInBounds_toArray, List.set_cons_zero, List.set_cons_succ]
            try simp only [List.getElem_toArray, List.getElem_cons_zero, List.getElem_cons_succ]
            refine wpAnyH_take (i := 8) (oi := _) (v := ?va5) rfl (by kernel_rfl) (by kernel_rfl) (by kernel_rfl) (fun _ _ _ h => h) (Or.inl ⟨by rfl, ?hya5⟩) (by assumption) ?resta5
            case hya5 => ((intro W hSw; (try dsimp only at hSw); go_simp; try with_reducible rfl))
            try simp only [Act.put, List.setIfInBounds_toArray, List.set_cons_zero, List.set_cons_succ]
            try simp only [List.getElem_toArray, List.getElem_cons_zero, List.getElem_cons_succ]
            refine wpAnyH_take (i := 9) (oi := _) (v := ?va6) rfl (by kernel_rfl) (by kernel_rfl) (by kernel_rfl) (fun _ _ _ h => h) (Or.inl ⟨by rfl, ?hya6⟩) (by assumption) ?resta6
            case hya6 => ((intro W hSw; (try dsimp only at hSw); go_simp; try with_reducible rfl))
            try simp only [Act.put, List.setIfInBounds_toArray, List.set_cons_zero, List.set_cons_succ]
            try simp only [List.getElem_toArray, List.getElem_cons_zero, List.getElem_cons_succ]
            refine wpAnyH_take (i := 10) (oi := _) (v := ?va7) rfl (by kernel_rfl) (by kernel_rfl) (by kernel_rfl) (fun _ _ _ h => h) (Or.inl ⟨by rfl, ?hya7⟩) (by assumption) ?resta7
            case hya7 => ((intro W hSw; (try dsimp only at hSw); go_simp; try with_reducible rfl))
            try simp only [Act.put, List.setIfInBounds_toArray, List.set_cons_zero, List.set_cons_succ]
            try simp only [List.getElem_toArray, List.getElem_cons_zero, List.getElem_cons_succ]
            refine wpAnyH_done (by kernel_rfl) ?_ _
            have e1 : Below wz.heap.size wz w1 := (Below.refl _ _).drew.trans hb1
            have e3 := e1.trans (hb3.mono e1.size)
            have e5 : Below wz.heap.size wz w5 := (e3.alloc e3.size _).trans (hb5.mono (e3.alloc e3.size _).size)
            have HB := Lib.hid (HBz.out.trans (e5.mono HBz.out.size))
            clear e1 e3 e5 hb1 hb3 hb5
            go_wp2_with fail
            go_meet
            exact ⟨rfl, rfl, HB.out⟩
          exact AllReadyH.nil
        exact AllReadyH.nil
      exact AllReadyH.nil
    exact AllReadyH.nil

  case rest =>
    obtain ⟨rfl, rfl, eB⟩ := hcut
    have HB := Lib.hid eB
    clear eB HM0 HM1 HJ HF
    go_upto_region 4 with (go_at_call 21; refine (HP.out _).mono ?_; rintro e w5 ⟨v, rfl, hsg, hb5⟩)
    obtain ⟨g, c, rfl, hc⟩ := SgtsAt.at hsg (by simp)
    have HB2 := Lib.hid (HB.out.trans (hb5.mono HB.out.size))
    have c0 := hc 0 _ rfl 1 _ rfl
    have c1 := hc 1 _ rfl 1 _ rfl
    have c2 := hc 1 _ rfl 5 _ rfl
    dsimp only at c0 c1 c2
    clear hc hsg hb5 HB HP
    go_wp2
    go_ret
    exact ⟨rfl, HB2.out⟩

/-- A list of sightings, read. -/
theorem SgtsAt.all {W : World} {v : Value} {xs : List Sgt} (h : SgtsAt W v xs) : ∃ A c, v = .slice A xs.length c ∧ ∀ i x, xs[i]? = some x → ∃ b o, A = some ⟨b, o, none⟩ ∧ ∀ j u, x.cells[j]? = some u → W.cell? ⟨b, o + i * 14 + j, none⟩ = some u := by
  by_cases hn : xs = []
  · subst hn
    unfold SgtsAt at h
    rcases h.2 with ⟨rfl, _⟩ | ⟨g, c, cur, rfl, _⟩
    · exact ⟨_, _, rfl, fun i x hx => by cases hx⟩
    · exact ⟨_, _, rfl, fun i x hx => by cases hx⟩
  · obtain ⟨g, c, rfl, hc⟩ := SgtsAt.at h hn
    exact ⟨_, _, rfl, fun i x hx => ⟨g, 0, rfl, fun j u hu => by rw [Nat.zero_add]; exact hc i x hx j u hu⟩⟩

end Go.Proofs.YtjennpcadjdnlaaGreatDoor
