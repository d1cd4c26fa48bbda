/-
 Rows of stages in memory; WALK: viterbi.check.
 WALK: viterbi.stages.
-/
import Derived.Test.YtnlnmfkmbpihhaaGreatDoorVitB
import Derived.Deep.MidRow
namespace Go.Proofs.YtnlnmfkmbpihhaaGreatDoor
open Go.RowKit

/-- Block g holds m stages; from the k-th on their costs are V's. -/
structure StgM (W : World) (g m k : Nat) (V : Nat → Nat → Int) : Prop where
 th : ∀ j, j < m → W.there g (j * 8) 8
 at' : ∀ j, k ≤ j → j < m → ∃ q : Nat → Int, W.rangeAt g (j * 8) (row8 (V j) q)
theorem StgM.heap {A B : World} {g m k : Nat} {V : Nat → Nat → Int} (h : StgM A g m k V) (hh : B.heap[g]? = A.heap[g]?) : StgM B g m k V := by
 refine ⟨fun j hj i hi => ?_, fun j hj hm => ?_⟩
 ·obtain ⟨h1, h2⟩ := h.th j hj i hi
  refine ⟨by rw [World.cell?_of_block (a := ⟨g, j * 8 + i, none⟩) hh]; exact h1, ?_⟩
  simp only [World.frozen?] at h2 ⊢
  rw [hh]
  exact h2
 ·obtain ⟨q, hq⟩ := h.at' j hj hm
  exact ⟨q, fun i v hv => (World.cell?_of_block (a := ⟨g, j * 8 + i, none⟩) hh).trans (hq i v hv)⟩
theorem StgM.lt {W : World} {g m k : Nat} {V : Nat → Nat → Int} (h : StgM W g m k V) (hm : 0 < m) : g < W.heap.size := by
 obtain ⟨u, hu⟩ := Option.isSome_iff_exists.1 (h.th 0 hm 0 (by omega)).1
 exact World.block_lt_of_cell? _ _ hu
theorem StgM.kept {A B : World} {g m k : Nat} {V : Nat → Nat → Int} (h : StgM A g m k V) (hm : 0 < m) (hb : Below A.heap.size A B) : StgM B g m k V := h.heap (hb.block g (h.lt hm))
theorem rangeAt_heap {A B : World} {g o : Nat} {cs : List Value} (h : A.rangeAt g o cs) (hh : B.heap[g]? = A.heap[g]?) : B.rangeAt g o cs := fun i v hv => (World.cell?_of_block (a := ⟨g, o + i, none⟩) hh).trans (h i v hv)
theorem row8_len (e q : Nat → Int) : (row8 e q).length = 8 := rfl
theorem StgM.set {W : World} {g m k : Nat} {V : Nat → Nat → Int} (h : StgM W g m (k + 1) V) (hk : k < m) (q : Nat → Int) : StgM (W.setCells g (k * 8) (row8 (V k) q)) g m k V := by
 refine ⟨fun j hj => World.there_setCells (h.th j hj) _ _ _, fun j hj hm => ?_⟩
 rcases (by omega : j = k ∨ k + 1 ≤ j) with rfl | hj
 ·exact ⟨q, World.rangeAt_setCells_same _ _ _ _ (h.th _ hk)⟩
 ·obtain ⟨q', hq⟩ := h.at' j hj hm
  exact ⟨q', World.rangeAt_setCells_apart hq _ _ _ (Or.inr (Or.inr (by rw [row8_len]; omega)))⟩
theorem setCells_below {w W : World} {H g : Nat} (h : Below H w W) (hg : H ≤ g) : ∀ (vs : List Value) (o : Nat), Below H w (W.setCells g o vs) := by
 intro vs
 induction vs generalizing W with
 | nil => intro o; exact h
 | cons v r ih =>
  intro o
  rw [World.setCells]
  exact ih (h.setCell (p := ⟨g, o, none⟩) hg v) (o + 1)
theorem Tryz.infoStg : (Tryz.prog.info? 139).map (fun i => (i.zero, i.size, i.bytes)) = some (some (stgV (fun _ => 0) (fun _ => 0)), 8, 64) := by kernel_rfl
theorem Tryz.sizeStg : (Tryz.prog.info? 139).map (·.size) = some 8 := by kernel_rfl
/-- Eight cells a stage, all zero. -/
def zeroStg (m : Nat) : Array Value := madeCells (stgV (fun _ => 0) (fun _ => 0)).cells (m * 8)
theorem make_stg (m : Nat) (hm : m ≤ 1000000) (w : World) : (Instr.makeSlice 133 (.int .i64 (m : Int)) (.int .i64 (m : Int))).run Tryz.prog w = .ok (.slice (some ⟨w.heap.size, 0, none⟩) m m) (w.alloc (.cells (zeroStg m) 139)) := by
 obtain ⟨i0, hi, hz0, hz1, hz2⟩ := info_parts Tryz.infoStg
 have hr := run_make (P := Tryz.prog) w 133 139 i0 (stgV (fun _ => 0) (fun _ => 0)) Tryz.underlying133 hi hz0 .i64 .i64 m m (by omega) (by omega) (by rw [hz2]; omega) (by omega)
 rw [hr, hz1, Int.toNat_natCast]
 rfl
theorem zeroStg_stg (W : World) (m : Nat) (V : Nat → Nat → Int) : StgM (W.alloc (.cells (zeroStg m) 139)) W.heap.size m m V := by
 have hb : (W.alloc (.cells (zeroStg m) 139)).heap[W.heap.size]? = some (.cells (zeroStg m) 139 (0, 0)) := by
  show (W.heap.push _)[W.heap.size]? = _
  simp
 have hs : (zeroStg m).size = m * 8 := size_madeCells _ _
 refine ⟨fun j hj i hi => ⟨?_, ?_⟩, fun j hj hm => absurd hj (by omega)⟩
 ·rw [cell_of_row _ _ _ _ _ _ hb, Array.getElem?_eq_getElem (by rw [hs]; omega)]
  rfl
 ·simp only [World.frozen?, hb]
  simp
section
variable {ops : Array Oper} {o : Oper} {a : Act} {K : Act → World → Prop} {Q : Exit → Act → World → Prop} {E : Prop}
theorem step_stg {W : World} {g m k : Nat} {V : Nat → Nat → Int} {q : Nat → Int} (hw : Region.wanted o (yielded ops a.tmps) = true) (p s : Operand) (ho : o.op = .store 139 p s)
  (hp : a.eval p = .pointer (some ⟨g, k * 8, none⟩)) (hs : a.eval s = .agg (row8 (V k) q).toArray) (hS : StgM W g m (k + 1) V) (hk : k < m)
  (h : ∀ W', StgM W' g m k V → (∀ H w, Below H w W → H ≤ g → Below H w W') → (∀ q', W.rangeAt g ((k + 1) * 8) (row8 (V (k + 1)) q') → W'.rangeAt g ((k + 1) * 8) (row8 (V (k + 1)) q')) → K (a.put o.dst undef) W') :
  if Region.wanted o (yielded ops a.tmps) = true then Oper.wp Tryz.prog o a W K Q else E := by
 rw [if_pos hw]
 refine wp_store_mid 139 p s ho g (k * 8) _ hp hs (hS.th k hk) Tryz.sizeStg (all_oneCell_toArray fun v hv => ?_) ?_
 ·unfold row8 at hv
  simp only [List.mem_cons, List.not_mem_nil, or_false] at hv
  rcases hv with rfl | rfl | rfl | rfl | rfl | rfl | rfl | rfl <;> rfl
 ·exact h _ (hS.set hk q) (fun H w hb hg => setCells_below hb hg _ _) (fun q' hq => World.rangeAt_setCells_apart hq _ _ _ (Or.inr (Or.inr (by rw [row8_len]; omega))))
end
theorem stg_store {ops : Array Oper} {rest : List Oper} {op : Oper} {a : Act} {W : World} {Q : Exit → Act → World → Prop} (hgd : op.guard = none) (x y : Operand) (ho : op.op = .store 139 x y)
  (b o : Nat) (cells : Array Value) (hx : a.eval x = .pointer (some ⟨b, o, none⟩)) (hy : a.eval y = .agg cells)
  (ht : W.there b o cells.size) (h8 : cells.size = 8) (h1 : cells.all (·.oneCell') = true) (W1 : World) (hE : W.setCells b o cells.toList = W1)
  (h : wpList Tryz.prog ops Q rest (a.put op.dst undef) W1) : wpList Tryz.prog ops Q (op :: rest) a W :=
 wpList_store_mid hgd 139 x y ho b o cells hx hy ht (by rw [h8]; exact Tryz.sizeStg) h1 (by rw [hE]; exact h)
/-- Two cells out of a word, and what lies behind them. -/
theorem drop_pair {s : ByteArray} {k : Nat} (h : 2 * k + 2 ≤ s.size) : ∃ x y, bs (s.extract (2 * k) (2 * k + 2)) = [x, y] ∧ (bs s).drop (2 * k) = x :: y :: (bs s).drop (2 * (k + 1)) := by
 have h1 : 2 * k < (bs s).length := by rw [bs_len]; omega
 have h2 : 2 * k + 1 < (bs s).length := by rw [bs_len]; omega
 refine ⟨(bs s)[2 * k], (bs s)[2 * k + 1], ?_, ?_⟩
 ·rw [bs_extract]
  refine List.ext_getElem? fun j => ?_
  rw [List.getElem?_drop, List.getElem?_take]
  match j with
  | 0 => rw [if_pos (by omega), Nat.add_zero, List.getElem?_eq_getElem h1]; rfl
  | 1 => rw [if_pos (by omega), List.getElem?_eq_getElem h2]; rfl
  | j + 2 => rw [if_neg (by omega)]; rfl
 ·rw [List.drop_eq_getElem_cons h1, List.drop_eq_getElem_cons h2, show 2 * (k + 1) = 2 * k + 1 + 1 by omega]

set_option maxRecDepth 100000 in
set_option maxHeartbeats 8000000 in
theorem vcheck_any (w : World) (s : ByteArray) (n : Nat) (hn : s.size = 2 * n) (hn2 : 2 ≤ n) (hn1 : n ≤ 1000) (hok : chkE (bs s) = 0) :
  Calls Tryz.prog 96 #[.string s] w fun e w' => e = .returned (.int .i64 0) ∧ Below w.heap.size w w' := by
 have H := ccheck_any w s (by omega)
 rw [hok] at H
 have H := Lib.hid H
 have h1 : Int.tmod (s.size : Int) 2 = 0 := by rw [Int.tmod_eq_emod_of_nonneg (by omega)]; omega
 have h2 : ¬ ((s.size : Int) < 4) := by omega
 have h3 : 4 ≤ s.size := by omega
 clear hn hn2 hok
 go_enter Tryz.func96, Tryz.ntmps96
 go_wp2_with fail
 refine H.out.mono ?_
 rintro e w' ⟨rfl, hb⟩
 go_wp2
 go_ret
 exact ⟨rfl, hb⟩

end Go.Proofs.YtnlnmfkmbpihhaaGreatDoor

namespace Go.Proofs.YtnlnmfkmbpihhaaGreatDoor
open Go.RowKit

/-- The costs of the j-th stage of word s. -/
def stgOf (s : ByteArray) (j : Nat) : Nat → Int := fun t => vst ((bs s).drop (2 * j)) t

set_option maxRecDepth 100000 in
set_option maxHeartbeats 8000000 in
theorem vstages_any (w : World) (s : ByteArray) (n : Nat) (hn : s.size = 2 * n) (hn1 : n ≤ 1000) :
  Calls Tryz.prog 97 #[.string s] w fun e w' => ∃ g, e = .returned (.slice (some ⟨g, 0, none⟩) (n + 1) (n + 1)) ∧ w.heap.size ≤ g ∧ StgM w' g (n + 1) 0 (stgOf s) ∧ Below w.heap.size w w' := by
 have hmk : ∀ W : World, (Instr.makeSlice 133 (.int .i64 ((n : Int) + 1)) (.int .i64 ((n : Int) + 1))).run Tryz.prog W = .ok (.slice (some ⟨W.heap.size, 0, none⟩) (n + 1) (n + 1)) (W.alloc (.cells (zeroStg (n + 1)) 139)) := make_stg (n + 1) (by omega)
 have hdiv : Int.tdiv (s.size : Int) 2 = (n : Int) := by rw [hn, Int.tdiv_eq_ediv_of_nonneg (by omega)]; omega
 obtain ⟨V, hV⟩ : ∃ V, stgOf s = V := ⟨_, rfl⟩
 rw [hV]
 have hnJ : (n : Int) ≤ 1000 := by omega
 have hZ := zeroStg_stg w (n + 1) V
 have hVn : ∀ t, V n t = if t = 0 then 0 else -1 := fun t => by
  rw [← hV]
  unfold stgOf
  rw [List.drop_eq_nil_of_le (by rw [bs_len]; omega)]
  rfl
 have hrow : row8 (V n) (fun t => if t = 0 then 1 else 0) = [.int .i64 0, .int .i64 1, .int .i64 (-1), .int .i64 0, .int .i64 (-1), .int .i64 0, .int .i64 (-1), .int .i64 0] := by
  unfold row8
  simp only [hVn]
  rfl
 have hZ1 := hZ.set (k := n) (by omega) (fun t => if t = 0 then 1 else 0)
 have hB1 : Below w.heap.size w ((w.alloc (.cells (zeroStg (n + 1)) 139)).setCells w.heap.size (n * 8) (row8 (V n) (fun t => if t = 0 then 1 else 0))) := setCells_below ((Below.refl _ _).alloc (Nat.le_refl _) _) (Nat.le_refl _) _ _
 have hth := hZ.th n (by omega)
 have hE : (w.alloc (.cells (zeroStg (n + 1)) 139)).setCells w.heap.size (n * 8) [.int .i64 0, .int .i64 1, .int .i64 (-1), .int .i64 0, .int .i64 (-1), .int .i64 0, .int .i64 (-1), .int .i64 0] = (w.alloc (.cells (zeroStg (n + 1)) 139)).setCells w.heap.size (n * 8) (row8 (V n) (fun t => if t = 0 then 1 else 0)) := by rw [hrow]
 generalize (w.alloc (.cells (zeroStg (n + 1)) 139)).setCells w.heap.size (n * 8) (row8 (V n) (fun t => if t = 0 then 1 else 0)) = W1 at hZ1 hB1 hE
 have HZ1 := Lib.hid hZ1
 have HB1 := Lib.hid hB1
 have HV := Lib.hid hV
 have HE := Lib.hid hE
 have HT := Lib.hid hth
 have hone : ((#[Value.int .i64 0, .int .i64 1, .int .i64 (-1), .int .i64 0, .int .i64 (-1), .int .i64 0, .int .i64 (-1), .int .i64 0] : Array Value).all (·.oneCell') = true) := by simp [Value.oneCell']
 have HO := Lib.hid hone
 clear hZ hZ1 hB1 hV hVn hrow hE hth hone
 go_enter Tryz.func97, Tryz.ntmps97
 go_wp2_with (refine stg_store rfl (.tmp 19) (.tmp 18) rfl _ _ _ rfl rfl HT.out rfl HO.out W1 HE.out ?_)
 go_loopw [5] (fun v wr => ∃ j : Nat, j ≤ n ∧ v = .int .i64 ((j : Int) - 1) ∧ StgM wr w.heap.size (n + 1) j V ∧ Below w.heap.size w wr) (fun v _ => (intOf v + 1).toNat)
 case atStart => exact ⟨n, Nat.le_refl _, rfl, HZ1.out, HB1.out⟩
 case round =>
  obtain ⟨j, hj, rfl, hS, hB⟩ := hrel
  match j, hj, hS with
  | 0, hj, hS =>
   go_wp2_with fail
   go_ret
   exact ⟨_, rfl, Nat.le_refl _, hS, hB⟩
  | k + 1, hj, hS =>
   obtain ⟨x, y, hxy, hdr⟩ := drop_pair (s := s) (k := k) (by omega)
   obtain ⟨q, hq⟩ := hS.at' (k + 1) (Nat.le_refl _) (by omega)
   have hVk : (fun t => brc x y (V (k + 1)) t (vbit x y (V (k + 1)) t)) = V k := by
    rw [← HV.out]
    funext t
    unfold stgOf
    rw [hdr, vst]
   have H0 : Hid (∀ W, Calls Tryz.prog 163 #[.string (s.extract (2 * k) (2 * k + 2)), .agg (row8 (V (k + 1)) q).toArray] W fun e w' => ∃ g', e = .returned (.agg (row8 (V k) g').toArray) ∧ Below W.heap.size W w') := Lib.hid (fun W => by
    have h := vbefore_any W (s.extract (2 * k) (2 * k + 2)) x y hxy (V (k + 1)) q (fun i => by
     rw [← HV.out]
     unfold stgOf
     have h1 := vst_ge ((bs s).drop (2 * (k + 1))) i
     have h2 := vst_le ((bs s).drop (2 * (k + 1))) i
     have h3 : ((bs s).drop (2 * (k + 1))).length ≤ 2000 := by rw [List.length_drop, bs_len]; omega
     omega)
    rw [hVk] at h
    exact h)
   have HS := Lib.hid hS
   have HBr := Lib.hid hB
   clear hVk hxy hdr hS hB HZ1 HB1 HE HT HO HV
   have hkJ : (k : Int) < n := by omega
   have hkn : k < n := by omega
   have ek : (((k + 1 : Nat) : Int) - 1) = (k : Int) := by omega
   have et : ((k : Int) + 1).toNat = k + 1 := by omega
   have e1 : ((2 : Int) * k).toNat = 2 * k := by omega
   have e2 : ((2 : Int) * k + 2).toNat = 2 * k + 2 := by omega
   have b1 : (2 : Int) * k + 2 ≤ s.size := by omega
   have b2 : (k : Int) + 1 < n + 1 := by omega
   have b3 : (0 : Int) ≤ k := by omega
   have ew1 : IntKind.i64.wrap (2 * (k : Int)) = 2 * k := by rw [IntKind.wrap_i64]; omega
   have ew2 : IntKind.i64.wrap (2 * (k : Int) + 2) = 2 * k + 2 := by rw [IntKind.wrap_i64]; omega
   have ew3 : IntKind.i64.wrap ((k : Int) + 1) = k + 1 := by rw [IntKind.wrap_i64]; omega
   have b4 : (0 : Int) ≤ 2 * k + 2 := by omega
   have b5 : (2 : Int) * k + 2 ≤ 2 * n := by omega
   have b6 : (0 : Int) ≤ 2 * k := by omega
   have b7 : (2 : Int) * k ≤ 2 * k + 2 := by omega
   have b8 : (0 : Int) ≤ k + 1 := by omega
   have b9 : (k : Int) < n + 1 := by omega
   rw [ek]
   go_upto_region 7 with fail
   refine wp_region_held_drew (S := (fun w' => w'.rangeAt w.heap.size ((k + 1) * 8) (row8 (V (k + 1)) q))) (by kernel_rfl) ?_ (fun hHeld => ?_)
   ·(first | exact hq | exact rangeAt_heap hq (hb5.block _ (HS.out.lt (by omega))) | exact hR6 _ (rangeAt_heap hq (hb5.block _ (HS.out.lt (by omega)))))
   refine tk 0 ?_
   refine tk 1 ?_
   refine tk 2 ?_
   refine tk 3 ?_
   refine tk 4 ?_
   refine tk 5 ?_
   refine tk 6 ?_
   refine tk 7 ?_
   refine tk 8 ?_
   refine tk 9 ?_
   refine tk 10 ?_
   refine tk 11 ?_
   refine tk 12 ?_
   refine wpAnyH_take (i := 13) (oi := _) (v := _) rfl (by kernel_rfl) (by kernel_rfl) (by kernel_rfl) (fun _ _ _ h => h) (yieldsIf_load_mid (by rfl) 139 (.tmp 38) rfl w.heap.size ((k + 1) * 8) rfl (row8 (V (k + 1)) q) _ (fun _ h => h) Tryz.underlying139 rfl Tryz.sizeStg) (by assumption) ?rest13
   try simp only [Act.put, List.getElem_toArray, List.getElem_cons_zero, List.getElem_cons_succ, List.setIfInBounds_toArray, List.set_cons_zero, List.set_cons_succ]
   refine wpAnyH_ready (rs := [14]) (by kernel_rfl) (by simp) ?_
   refine AllReadyH.cons (o := _) rfl (fun K hK => ?_) ?_
   ·go_simp
    refine (H0.out _).mono ?_
    rintro e w5 ⟨g5, rfl, hb5⟩
    (try go_wp2_with fail)
    replace hb5 : Below wr.heap.size wr w5 := (Below.refl _ _).drew.trans hb5
    have s5 := HS.out.kept (by omega) hb5
    have c5 := HBr.out.trans (hb5.mono HBr.out.size)
    have r5 := (show wr.rangeAt w.heap.size ((k + 1) * 8) (row8 (V (k + 1)) q) from hq)
    refine hko hK (by (first | exact hq | exact rangeAt_heap hq (hb5.block _ (HS.out.lt (by omega))) | exact hR6 _ (rangeAt_heap hq (hb5.block _ (HS.out.lt (by omega)))))) (fun _ => ?_)
    clear hK K
    refine wpAnyH_ready (rs := [15]) (by kernel_rfl) (by simp) ?_
    refine AllReadyH.cons (o := _) rfl (fun K hK => ?_) ?_
    ·go_simp
     refine hko hK (by (first | exact hq | exact rangeAt_heap hq (hb5.block _ (HS.out.lt (by omega))) | exact hR6 _ (rangeAt_heap hq (hb5.block _ (HS.out.lt (by omega)))))) (fun _ => ?_)
     clear hK K
     refine wpAnyH_ready (rs := [16]) (by kernel_rfl) (by simp) ?_
     refine AllReadyH.cons (o := _) rfl (fun K hK => ?_) ?_
     ·refine step_stg rfl (.tmp 41) (.tmp 40) rfl rfl rfl s5 (by omega) ?_
      intro w6 hS6 hB6 hR6
      refine hko hK (by (first | exact hq | exact rangeAt_heap hq (hb5.block _ (HS.out.lt (by omega))) | exact hR6 _ (rangeAt_heap hq (hb5.block _ (HS.out.lt (by omega)))))) (fun _ => ?_)
      clear hK K
      refine wpAnyH_done (by kernel_rfl) ?_ _
      have hB7 := hB6 _ _ c5 (Nat.le_refl _)
      clear c5 s5 hB6 hR6 hq r5
      go_wp2_with fail
      go_roundw
      case rel => exact ⟨k, by omega, rfl, hS6, hB7⟩
      case measure => simp [intOf]
     exact AllReadyH.nil
    exact AllReadyH.nil
   exact AllReadyH.nil


end Go.Proofs.YtnlnmfkmbpihhaaGreatDoor
