/-
  Rows of stages in memory; WALK: viterbi.check.
-/
import Derived.Test.YtjennpcadjdnlaaGreatDoorVitB
import Derived.Deep.MidRow
namespace Go.Proofs.YtjennpcadjdnlaaGreatDoor
open Go.RowKit

/-- Block g holds m stages; from the k-th on their costs are V's. -/
structure StgM (W : World) (g m k : Nat) (V : Nat → Nat → Int) : Prop where
  th : ∀ j, j < m → W.there g (j * 8) 8
  at' : ∀ j, k ≤ j → j < m → ∃ q : Nat → Int, W.rangeAt g (j * 8) (row8 (V j) q)
theorem StgM.heap {A B : World} {g m k : Nat} {V : Nat → Nat → Int} (h : StgM A g m k V) (hh : B.heap[g]? = A.heap[g]?) : StgM B g m k V := by
  refine ⟨fun j hj i hi => ?_, fun j hj hm => ?_⟩
  · obtain ⟨h1, h2⟩ := h.th j hj i hi
    refine ⟨by rw [World.cell?_of_block (a := ⟨g, j * 8 + i, none⟩) hh]; exact h1, ?_⟩
    simp only [World.frozen?] at h2 ⊢
    rw [hh]
    exact h2
  · obtain ⟨q, hq⟩ := h.at' j hj hm
    exact ⟨q, fun i v hv => (World.cell?_of_block (a := ⟨g, j * 8 + i, none⟩) hh).trans (hq i v hv)⟩
theorem StgM.lt {W : World} {g m k : Nat} {V : Nat → Nat → Int} (h : StgM W g m k V) (hm : 0 < m) : g < W.heap.size := by
  obtain ⟨u, hu⟩ := Option.isSome_iff_exists.1 (h.th 0 hm 0 (by omega)).1
  exact World.block_lt_of_cell? _ _ hu
theorem StgM.kept {A B : World} {g m k : Nat} {V : Nat → Nat → Int} (h : StgM A g m k V) (hm : 0 < m) (hb : Below A.heap.size A B) : StgM B g m k V := h.heap (hb.block g (h.lt hm))
theorem rangeAt_heap {A B : World} {g o : Nat} {cs : List Value} (h : A.rangeAt g o cs) (hh : B.heap[g]? = A.heap[g]?) : B.rangeAt g o cs := fun i v hv => (World.cell?_of_block (a := ⟨g, o + i, none⟩) hh).trans (h i v hv)
theorem row8_len (e q : Nat → Int) : (row8 e q).length = 8 := rfl
theorem StgM.set {W : World} {g m k : Nat} {V : Nat → Nat → Int} (h : StgM W g m (k + 1) V) (hk : k < m) (q : Nat → Int) : StgM (W.setCells g (k * 8) (row8 (V k) q)) g m k V := by
  refine ⟨fun j hj => World.there_setCells (h.th j hj) _ _ _, fun j hj hm => ?_⟩
  rcases (by omega : j = k ∨ k + 1 ≤ j) with rfl | hj
  · exact ⟨q, World.rangeAt_setCells_same _ _ _ _ (h.th _ hk)⟩
  · obtain ⟨q', hq⟩ := h.at' j hj hm
    exact ⟨q', World.rangeAt_setCells_apart hq _ _ _ (Or.inr (Or.inr (by rw [row8_len]; omega)))⟩
theorem setCells_below {w W : World} {H g : Nat} (h : Below H w W) (hg : H ≤ g) : ∀ (vs : List Value) (o : Nat), Below H w (W.setCells g o vs) := by
  intro vs
  induction vs generalizing W with
  | nil => intro o; exact h
  | cons v r ih =>
    intro o
    rw [World.setCells]
    exact ih (h.setCell (p := ⟨g, o, none⟩) hg v) (o + 1)
theorem Tryz.infoStg : (Tryz.prog.info? 128).map (fun i => (i.zero, i.size, i.bytes)) = some (some (stgV (fun _ => 0) (fun _ => 0)), 8, 64) := by kernel_rfl
theorem Tryz.sizeStg : (Tryz.prog.info? 128).map (·.size) = some 8 := by kernel_rfl
/-- Eight cells a stage, all zero. -/
def zeroStg (m : Nat) : Array Value := madeCells (stgV (fun _ => 0) (fun _ => 0)).cells (m * 8)
theorem make_stg (m : Nat) (hm : m ≤ 1000000) (w : World) : (Instr.makeSlice 122 (.int .i64 (m : Int)) (.int .i64 (m : Int))).run Tryz.prog w = .ok (.slice (some ⟨w.heap.size, 0, none⟩) m m) (w.alloc (.cells (zeroStg m) 128)) := by
  obtain ⟨i0, hi, hz0, hz1, hz2⟩ := info_parts Tryz.infoStg
  have hr := run_make (P := Tryz.prog) w 122 128 i0 (stgV (fun _ => 0) (fun _ => 0)) Tryz.underlying122 hi hz0 .i64 .i64 m m (by omega) (by omega) (by rw [hz2]; omega) (by omega)
  rw [hr, hz1, Int.toNat_natCast]
  rfl
theorem zeroStg_stg (W : World) (m : Nat) (V : Nat → Nat → Int) : StgM (W.alloc (.cells (zeroStg m) 128)) W.heap.size m m V := by
  have hb : (W.alloc (.cells (zeroStg m) 128)).heap[W.heap.size]? = some (.cells (zeroStg m) 128 (0, 0)) := by
    show (W.heap.push _)[W.heap.size]? = _
    simp
  have hs : (zeroStg m).size = m * 8 := size_madeCells _ _
  refine ⟨fun j hj i hi => ⟨?_, ?_⟩, fun j hj hm => absurd hj (by omega)⟩
  · rw [cell_of_row _ _ _ _ _ _ hb, Array.getElem?_eq_getElem (by rw [hs]; omega)]
    rfl
  · simp only [World.frozen?, hb]
    simp
section
variable {ops : Array Oper} {o : Oper} {a : Act} {K : Act → World → Prop} {Q : Exit → Act → World → Prop} {E : Prop}
theorem step_stg {W : World} {g m k : Nat} {V : Nat → Nat → Int} {q : Nat → Int} (hw : Region.wanted o (yielded ops a.tmps) = true) (p s : Operand) (ho : o.op = .store 128 p s)
    (hp : a.eval p = .pointer (some ⟨g, k * 8, none⟩)) (hs : a.eval s = .agg (row8 (V k) q).toArray) (hS : StgM W g m (k + 1) V) (hk : k < m)
    (h : ∀ W', StgM W' g m k V → (∀ H w, Below H w W → H ≤ g → Below H w W') → (∀ q', W.rangeAt g ((k + 1) * 8) (row8 (V (k + 1)) q') → W'.rangeAt g ((k + 1) * 8) (row8 (V (k + 1)) q')) → K (a.put o.dst undef) W') :
    if Region.wanted o (yielded ops a.tmps) = true then Oper.wp Tryz.prog o a W K Q else E := by
  rw [if_pos hw]
  refine wp_store_mid 128 p s ho g (k * 8) _ hp hs (hS.th k hk) Tryz.sizeStg (all_oneCell_toArray fun v hv => ?_) ?_
  · unfold row8 at hv
    simp only [List.mem_cons, List.not_mem_nil, or_false] at hv
    rcases hv with rfl | rfl | rfl | rfl | rfl | rfl | rfl | rfl <;> rfl
  · exact h _ (hS.set hk q) (fun H w hb hg => setCells_below hb hg _ _) (fun q' hq => World.rangeAt_setCells_apart hq _ _ _ (Or.inr (Or.inr (by rw [row8_len]; omega))))
end
theorem stg_store {ops : Array Oper} {rest : List Oper} {op : Oper} {a : Act} {W : World} {Q : Exit → Act → World → Prop} (hgd : op.guard = none) (x y : Operand) (ho : op.op = .store 128 x y)
    (b o : Nat) (cells : Array Value) (hx : a.eval x = .pointer (some ⟨b, o, none⟩)) (hy : a.eval y = .agg cells)
    (ht : W.there b o cells.size) (h8 : cells.size = 8) (h1 : cells.all (·.oneCell') = true) (W1 : World) (hE : W.setCells b o cells.toList = W1)
    (h : wpList Tryz.prog ops Q rest (a.put op.dst undef) W1) : wpList Tryz.prog ops Q (op :: rest) a W :=
  wpList_store_mid hgd 128 x y ho b o cells hx hy ht (by rw [h8]; exact Tryz.sizeStg) h1 (by rw [hE]; exact h)
/-- Two cells out of a word, and what lies behind them. -/
theorem drop_pair {s : ByteArray} {k : Nat} (h : 2 * k + 2 ≤ s.size) : ∃ x y, bs (s.extract (2 * k) (2 * k + 2)) = [x, y] ∧ (bs s).drop (2 * k) = x :: y :: (bs s).drop (2 * (k + 1)) := by
  have h1 : 2 * k < (bs s).length := by rw [bs_len]; omega
  have h2 : 2 * k + 1 < (bs s).length := by rw [bs_len]; omega
  refine ⟨(bs s)[2 * k], (bs s)[2 * k + 1], ?_, ?_⟩
  · rw [bs_extract]
    refine List.ext_getElem? fun j => ?_
    rw [List.getElem?_drop, List.getElem?_take]
    match j with
    | 0 => rw [if_pos (by omega), Nat.add_zero, List.getElem?_eq_getElem h1]; rfl
    | 1 => rw [if_pos (by omega), List.getElem?_eq_getElem h2]; rfl
    | j + 2 => rw [if_neg (by omega)]; rfl
  · rw [List.drop_eq_getElem_cons h1, List.drop_eq_getElem_cons h2, show 2 * (k + 1) = 2 * k + 1 + 1 by omega]

set_option maxRecDepth 100000 in
set_option maxHeartbeats 8000000 in
theorem vcheck_any (w : World) (s : ByteArray) (n : Nat) (hn : s.size = 2 * n) (hn2 : 2 ≤ n) (hn1 : n ≤ 1000) (hok : chkE (bs s) = 0) :
    Calls Tryz.prog 82 #[.string s] w fun e w' => e = .returned (.int .i64 0) ∧ Below w.heap.size w w' := by
  have H := ccheck_any w s (by omega)
  rw [hok] at H
  have H := Lib.hid H
  have h1 : Int.tmod (s.size : Int) 2 = 0 := by rw [Int.tmod_eq_emod_of_nonneg (by omega)]; omega
  have h2 : ¬ ((s.size : Int) < 4) := by omega
  have h3 : 4 ≤ s.size := by omega
  clear hn hn2 hok
  go_enter Tryz.func82, Tryz.ntmps82
  go_wp2_with fail
  refine H.out.mono ?_
  rintro e w' ⟨rfl, hb⟩
  go_wp2
  go_ret
  exact ⟨rfl, hb⟩

end Go.Proofs.YtjennpcadjdnlaaGreatDoor
