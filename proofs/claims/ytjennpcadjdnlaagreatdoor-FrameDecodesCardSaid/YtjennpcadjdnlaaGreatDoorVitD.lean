/-
  WALK: viterbi.stages.
-/
import Derived.Test.YtjennpcadjdnlaaGreatDoorVitC
namespace Go.Proofs.YtjennpcadjdnlaaGreatDoor
open Go.RowKit

/-- The costs of the j-th stage of word s. -/
def stgOf (s : ByteArray) (j : Nat) : Nat → Int := fun t => vst ((bs s).drop (2 * j)) t

set_option maxRecDepth 100000 in
set_option maxHeartbeats 8000000 in
theorem vstages_any (w : World) (s : ByteArray) (n : Nat) (hn : s.size = 2 * n) (hn1 : n ≤ 1000) :
    Calls Tryz.prog 83 #[.string s] w fun e w' => ∃ g, e = .returned (.slice (some ⟨g, 0, none⟩) (n + 1) (n + 1)) ∧ w.heap.size ≤ g ∧ StgM w' g (n + 1) 0 (stgOf s) ∧ Below w.heap.size w w' := by
  have hmk : ∀ W : World, (Instr.makeSlice 122 (.int .i64 ((n : Int) + 1)) (.int .i64 ((n : Int) + 1))).run Tryz.prog W = .ok (.slice (some ⟨W.heap.size, 0, none⟩) (n + 1) (n + 1)) (W.alloc (.cells (zeroStg (n + 1)) 128)) := make_stg (n + 1) (by omega)
  have hdiv : Int.tdiv (s.size : Int) 2 = (n : Int) := by rw [hn, Int.tdiv_eq_ediv_of_nonneg (by omega)]; omega
  obtain ⟨V, hV⟩ : ∃ V, stgOf s = V := ⟨_, rfl⟩
  rw [hV]
  have hnJ : (n : Int) ≤ 1000 := by omega
  have hZ := zeroStg_stg w (n + 1) V
  have hVn : ∀ t, V n t = if t = 0 then 0 else -1 := fun t => by
    rw [← hV]
    unfold stgOf
    rw [List.drop_eq_nil_of_le (by rw [bs_len]; omega)]
    rfl
  have hrow : row8 (V n) (fun t => if t = 0 then 1 else 0) = [.int .i64 0, .int .i64 1, .int .i64 (-1), .int .i64 0, .int .i64 (-1), .int .i64 0, .int .i64 (-1), .int .i64 0] := by
    unfold row8
    simp only [hVn]
    rfl
  have hZ1 := hZ.set (k := n) (by omega) (fun t => if t = 0 then 1 else 0)
  have hB1 : Below w.heap.size w ((w.alloc (.cells (zeroStg (n + 1)) 128)).setCells w.heap.size (n * 8) (row8 (V n) (fun t => if t = 0 then 1 else 0))) := setCells_below ((Below.refl _ _).alloc (Nat.le_refl _) _) (Nat.le_refl _) _ _
  have hth := hZ.th n (by omega)
  have hE : (w.alloc (.cells (zeroStg (n + 1)) 128)).setCells w.heap.size (n * 8) [.int .i64 0, .int .i64 1, .int .i64 (-1), .int .i64 0, .int .i64 (-1), .int .i64 0, .int .i64 (-1), .int .i64 0] = (w.alloc (.cells (zeroStg (n + 1)) 128)).setCells w.heap.size (n * 8) (row8 (V n) (fun t => if t = 0 then 1 else 0)) := by rw [hrow]
  generalize (w.alloc (.cells (zeroStg (n + 1)) 128)).setCells w.heap.size (n * 8) (row8 (V n) (fun t => if t = 0 then 1 else 0)) = W1 at hZ1 hB1 hE
  have HZ1 := Lib.hid hZ1
  have HB1 := Lib.hid hB1
  have HV := Lib.hid hV
  have HE := Lib.hid hE
  have HT := Lib.hid hth
  have hone : ((#[Value.int .i64 0, .int .i64 1, .int .i64 (-1), .int .i64 0, .int .i64 (-1), .int .i64 0, .int .i64 (-1), .int .i64 0] : Array Value).all (·.oneCell') = true) := by simp [Value.oneCell']
  have HO := Lib.hid hone
  clear hZ hZ1 hB1 hV hVn hrow hE hth hone
  go_enter Tryz.func83, Tryz.ntmps83
  go_wp2_with (refine stg_store rfl (.tmp 19) (.tmp 18) rfl _ _ _ rfl rfl HT.out rfl HO.out W1 HE.out ?_)
  go_loopw [5] (fun v wr => ∃ j : Nat, j ≤ n ∧ v = .int .i64 ((j : Int) - 1) ∧ StgM wr w.heap.size (n + 1) j V ∧ Below w.heap.size w wr) (fun v _ => (intOf v + 1).toNat)
  case atStart => exact ⟨n, Nat.le_refl _, rfl, HZ1.out, HB1.out⟩
  case round =>
    obtain ⟨j, hj, rfl, hS, hB⟩ := hrel
    match j, hj, hS with
    | 0, hj, hS =>
      go_wp2_with fail
      go_ret
      exact ⟨_, rfl, Nat.le_refl _, hS, hB⟩
    | k + 1, hj, hS =>
      obtain ⟨x, y, hxy, hdr⟩ := drop_pair (s := s) (k := k) (by omega)
      obtain ⟨q, hq⟩ := hS.at' (k + 1) (Nat.le_refl _) (by omega)
      have hVk : (fun t => brc x y (V (k + 1)) t (vbit x y (V (k + 1)) t)) = V k := by
        rw [← HV.out]
        funext t
        unfold stgOf
        rw [hdr, vst]
      have H0 : Hid (∀ W, Calls Tryz.prog 150 #[.string (s.extract (2 * k) (2 * k + 2)), .agg (row8 (V (k + 1)) q).toArray] W fun e w' => ∃ g', e = .returned (.agg (row8 (V k) g').toArray) ∧ Below W.heap.size W w') := Lib.hid (fun W => by
        have h := vbefore_any W (s.extract (2 * k) (2 * k + 2)) x y hxy (V (k + 1)) q (fun i => by
          rw [← HV.out]
          unfold stgOf
          have h1 := vst_ge ((bs s).drop (2 * (k + 1))) i
          have h2 := vst_le ((bs s).drop (2 * (k + 1))) i
          have h3 : ((bs s).drop (2 * (k + 1))).length ≤ 2000 := by rw [List.length_drop, bs_len]; omega
          omega)
        rw [hVk] at h
        exact h)
      have HS := Lib.hid hS
      have HBr := Lib.hid hB
      clear hVk hxy hdr hS hB HZ1 HB1 HE HT HO HV
      have hkJ : (k : Int) < n := by omega
      have hkn : k < n := by omega
      have ek : (((k + 1 : Nat) : Int) - 1) = (k : Int) := by omega
      have et : ((k : Int) + 1).toNat = k + 1 := by omega
      have e1 : ((2 : Int) * k).toNat = 2 * k := by omega
      have e2 : ((2 : Int) * k + 2).toNat = 2 * k + 2 := by omega
      have b1 : (2 : Int) * k + 2 ≤ s.size := by omega
      have b2 : (k : Int) + 1 < n + 1 := by omega
      have b3 : (0 : Int) ≤ k := by omega
      have ew1 : IntKind.i64.wrap (2 * (k : Int)) = 2 * k := by rw [IntKind.wrap_i64]; omega
      have ew2 : IntKind.i64.wrap (2 * (k : Int) + 2) = 2 * k + 2 := by rw [IntKind.wrap_i64]; omega
      have ew3 : IntKind.i64.wrap ((k : Int) + 1) = k + 1 := by rw [IntKind.wrap_i64]; omega
      have b4 : (0 : Int) ≤ 2 * k + 2 := by omega
      have b5 : (2 : Int) * k + 2 ≤ 2 * n := by omega
      have b6 : (0 : Int) ≤ 2 * k := by omega
      have b7 : (2 : Int) * k ≤ 2 * k + 2 := by omega
      have b8 : (0 : Int) ≤ k + 1 := by omega
      have b9 : (k : Int) < n + 1 := by omega
      rw [ek]
      go_upto_region 7 with fail
      refine wp_region_held_drew (S := (fun w' => w'.rangeAt w.heap.size ((k + 1) * 8) (row8 (V (k + 1)) q))) (by kernel_rfl) ?_ (fun hHeld => ?_)
      · (first | exact hq | exact rangeAt_heap hq (hb5.block _ (HS.out.lt (by omega))) | exact hR6 _ (rangeAt_heap hq (hb5.block _ (HS.out.lt (by omega)))))
      refine wpAnyH_take (i := 0) (oi := _) (v := ?v0) rfl (by kernel_rfl) (by kernel_rfl) (by kernel_rfl) (fun _ _ _ h => h) (Or.inl ⟨by rfl, ?hy0⟩) (by assumption) ?rest0
      case hy0 => ((intro W hSw); (try dsimp only at hSw); go_simp; try with_reducible rfl)
      try simp only [Act.put, List.getElem_toArray, List.getElem_cons_zero, List.setIfInBounds_toArray, List.set_cons_zero, List.set_cons_succ]
      refine wpAnyH_take (i := 1) (oi := _) (v := ?v1) rfl (by kernel_rfl) (by kernel_rfl) (by kernel_rfl) (fun _ _ _ h => h) (Or.inl ⟨by rfl, ?hy1⟩) (by assumption) ?rest1
      case hy1 => ((intro W hSw); (try dsimp only at hSw); go_simp; try with_reducible rfl)
      try simp only [Act.put, List.getElem_toArray, List.getElem_cons_zero, List.getElem_cons_succ, List.setIfInBounds_toArray, List.set_cons_zero, List.set_cons_succ]
      refine wpAnyH_take (i := 2) (oi := _) (v := ?v2) rfl (by kernel_rfl) (by kernel_rfl) (by kernel_rfl) (fun _ _ _ h => h) (Or.inl ⟨by rfl, ?hy2⟩) (by assumption) ?rest2
      case hy2 => ((intro W hSw); (try dsimp only at hSw); go_simp; try with_reducible rfl)
      try simp only [Act.put, List.getElem_toArray, List.getElem_cons_zero, List.getElem_cons_succ, List.setIfInBounds_toArray, List.set_cons_zero, List.set_cons_succ]
      refine wpAnyH_take (i := 3) (oi := _) (v := ?v3) rfl (by kernel_rfl) (by kernel_rfl) (by kernel_rfl) (fun _ _ _ h => h) (Or.inl ⟨by rfl, ?hy3⟩) (by assumption) ?rest3
      case hy3 => ((intro W hSw); (try dsimp only at hSw); go_simp; try with_reducible rfl)
      try simp only [Act.put, List.getElem_toArray, List.getElem_cons_zero, List.getElem_cons_succ, List.setIfInBounds_toArray, List.set_cons_zero, List.set_cons_succ]
      refine wpAnyH_take (i := 4) (oi := _) (v := ?v4) rfl (by kernel_rfl) (by kernel_rfl) (by kernel_rfl) (fun _ _ _ h => h) (Or.inl ⟨by rfl, ?hy4⟩) (by assumption) ?rest4
      case hy4 => ((intro W hSw); (try dsimp only at hSw); go_simp; try with_reducible rfl)
      try simp only [Act.put, List.getElem_toArray, List.getElem_cons_zero, List.getElem_cons_succ, List.setIfInBounds_toArray, List.set_cons_zero, List.set_cons_succ]
      refine wpAnyH_take (i := 5) (oi := _) (v := ?v5) rfl (by kernel_rfl) (by kernel_rfl) (by kernel_rfl) (fun _ _ _ h => h) (Or.inl ⟨by rfl, ?hy5⟩) (by assumption) ?rest5
      case hy5 => ((intro W hSw); (try dsimp only at hSw); go_simp; try with_reducible rfl)
      try simp only [Act.put, List.getElem_toArray, List.getElem_cons_zero, List.getElem_cons_succ, List.setIfInBounds_toArray, List.set_cons_zero, List.set_cons_succ]
      refine wpAnyH_take (i := 6) (oi := _) (v := ?v6) rfl (by kernel_rfl) (by kernel_rfl) (by kernel_rfl) (fun _ _ _ h => h) (Or.inl ⟨by rfl, ?hy6⟩) (by assumption) ?rest6
      case hy6 => ((intro W hSw); (try dsimp only at hSw); go_simp; try with_reducible rfl)
      try simp only [Act.put, List.getElem_toArray, List.getElem_cons_zero, List.getElem_cons_succ, List.setIfInBounds_toArray, List.set_cons_zero, List.set_cons_succ]
      refine wpAnyH_take (i := 7) (oi := _) (v := ?v7) rfl (by kernel_rfl) (by kernel_rfl) (by kernel_rfl) (fun _ _ _ h => h) (Or.inl ⟨by rfl, ?hy7⟩) (by assumption) ?rest7
      case hy7 => ((intro W hSw); (try dsimp only at hSw); go_simp; try with_reducible rfl)
      try simp only [Act.put, List.getElem_toArray, List.getElem_cons_zero, List.getElem_cons_succ, List.setIfInBounds_toArray, List.set_cons_zero, List.set_cons_succ]
      refine wpAnyH_take (i := 8) (oi := _) (v := ?v8) rfl (by kernel_rfl) (by kernel_rfl) (by kernel_rfl) (fun _ _ _ h => h) (Or.inl ⟨by rfl, ?hy8⟩) (by assumption) ?rest8
      case hy8 => ((intro W hSw); (try dsimp only at hSw); go_simp; try with_reducible rfl)
      try simp only [Act.put, List.getElem_toArray, List.getElem_cons_zero, List.getElem_cons_succ, List.setIfInBounds_toArray, List.set_cons_zero, List.set_cons_succ]
      refine wpAnyH_take (i := 9) (oi := _) (v := ?v9) rfl (by kernel_rfl) (by kernel_rfl) (by kernel_rfl) (fun _ _ _ h => h) (Or.inl ⟨by rfl, ?hy9⟩) (by assumption) ?rest9
      case hy9 => ((intro W hSw); (try dsimp only at hSw); go_simp; try with_reducible rfl)
      try simp only [Act.put, List.getElem_toArray, List.getElem_cons_zero, List.getElem_cons_succ, List.setIfInBounds_toArray, List.set_cons_zero, List.set_cons_succ]
      refine wpAnyH_take (i := 10) (oi := _) (v := ?v10) rfl (by kernel_rfl) (by kernel_rfl) (by kernel_rfl) (fun _ _ _ h => h) (Or.inl ⟨by rfl, ?hy10⟩) (by assumption) ?rest10
      case hy10 => ((intro W hSw); (try dsimp only at hSw); go_simp; try with_reducible rfl)
      try simp only [Act.put, List.getElem_toArray, List.getElem_cons_zero, List.getElem_cons_succ, List.setIfInBounds_toArray, List.set_cons_zero, List.set_cons_succ]
      refine wpAnyH_take (i := 11) (oi := _) (v := ?v11) rfl (by kernel_rfl) (by kernel_rfl) (by kernel_rfl) (fun _ _ _ h => h) (Or.inl ⟨by rfl, ?hy11⟩) (by assumption) ?rest11
      case hy11 => ((intro W hSw); (try dsimp only at hSw); go_simp; try with_reducible rfl)
      try simp only [Act.put, List.getElem_toArray, List.getElem_cons_zero, List.getElem_cons_succ, List.setIfInBounds_toArray, List.set_cons_zero, List.set_cons_succ]
      refine wpAnyH_take (i := 12) (oi := _) (v := ?v12) rfl (by kernel_rfl) (by kernel_rfl) (by kernel_rfl) (fun _ _ _ h => h) (Or.inl ⟨by rfl, ?hy12⟩) (by assumption) ?rest12
      case hy12 => ((intro W hSw); (try dsimp only at hSw); go_simp; try with_reducible rfl)
      try simp only [Act.put, List.getElem_toArray, List.getElem_cons_zero, List.getElem_cons_succ, List.setIfInBounds_toArray, List.set_cons_zero, List.set_cons_succ]
      refine wpAnyH_take (i := 13) (oi := _) (v := _) rfl (by kernel_rfl) (by kernel_rfl) (by kernel_rfl) (fun _ _ _ h => h) (yieldsIf_load_mid (by rfl) 128 (.tmp 38) rfl w.heap.size ((k + 1) * 8) rfl (row8 (V (k + 1)) q) _ (fun _ h => h) Tryz.underlying128 rfl Tryz.sizeStg) (by assumption) ?rest13
      try simp only [Act.put, List.getElem_toArray, List.getElem_cons_zero, List.getElem_cons_succ, List.setIfInBounds_toArray, List.set_cons_zero, List.set_cons_succ]
      refine wpAnyH_ready (rs := [14]) (by kernel_rfl) (by simp) ?_
      refine AllReadyH.cons (o := _) rfl (fun K hK => ?_) ?_
      · go_simp
        refine (H0.out _).mono ?_
        rintro e w5 ⟨g5, rfl, hb5⟩
        (try go_wp2_with fail)
        replace hb5 : Below wr.heap.size wr w5 := (Below.refl _ _).drew.trans hb5
        have s5 := HS.out.kept (by omega) hb5
        have c5 := HBr.out.trans (hb5.mono HBr.out.size)
        have r5 := (show wr.rangeAt w.heap.size ((k + 1) * 8) (row8 (V (k + 1)) q) from hq)
        refine hK.out _ _ (by (first | exact hq | exact rangeAt_heap hq (hb5.block _ (HS.out.lt (by omega))) | exact hR6 _ (rangeAt_heap hq (hb5.block _ (HS.out.lt (by omega)))))) (fun _ => ?_)
        clear hK K
        try simp only [Act.put, List.getElem_toArray, List.getElem_cons_zero, List.getElem_cons_succ, List.setIfInBounds_toArray, List.set_cons_zero, List.set_cons_succ]
        refine wpAnyH_ready (rs := [15]) (by kernel_rfl) (by simp) ?_
        refine AllReadyH.cons (o := _) rfl (fun K hK => ?_) ?_
        · go_simp
          refine hK.out _ _ (by (first | exact hq | exact rangeAt_heap hq (hb5.block _ (HS.out.lt (by omega))) | exact hR6 _ (rangeAt_heap hq (hb5.block _ (HS.out.lt (by omega)))))) (fun _ => ?_)
          clear hK K
          try simp only [Act.put, List.getElem_toArray, List.getElem_cons_zero, List.getElem_cons_succ, List.setIfInBounds_toArray, List.set_cons_zero, List.set_cons_succ]
          refine wpAnyH_ready (rs := [16]) (by kernel_rfl) (by simp) ?_
          refine AllReadyH.cons (o := _) rfl (fun K hK => ?_) ?_
          · refine step_stg rfl (.tmp 41) (.tmp 40) rfl rfl rfl s5 (by omega) ?_
            intro w6 hS6 hB6 hR6
            refine hK.out _ _ (by (first | exact hq | exact rangeAt_heap hq (hb5.block _ (HS.out.lt (by omega))) | exact hR6 _ (rangeAt_heap hq (hb5.block _ (HS.out.lt (by omega)))))) (fun _ => ?_)
            clear hK K
            try simp only [Act.put, List.getElem_toArray, List.getElem_cons_zero, List.getElem_cons_succ]
            refine wpAnyH_done (by kernel_rfl) ?_ _
            have hB7 := hB6 _ _ c5 (Nat.le_refl _)
            clear c5 s5 hB6 hR6 hq r5
            go_wp2_with fail
            go_roundw
            case rel => exact ⟨k, by omega, rfl, hS6, hB7⟩
            case measure => simp [intOf]
          exact AllReadyH.nil
        exact AllReadyH.nil
      exact AllReadyH.nil


end Go.Proofs.YtjennpcadjdnlaaGreatDoor
