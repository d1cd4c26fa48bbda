/-
  Joined: MbL.
-/
import Derived.Test.YtbccghbngaiceaaGreatDoorMMn31
set_option linter.all false
set_option maxRecDepth 100000
set_option maxHeartbeats 64000000
namespace Go.Proofs.YtbccghbngaiceaaGreatDoor
section
open Go.RowKit
theorem insEnt_any (w0 w : World) (v : Value) (l : List Ent) (hO : OwnSeq entS 48 w0 w v l) (hB : Below w0.heap.size w0 w) (hl : l.length ≤ 100000) (i : Nat) (hi : i ≤ l.length) (gb : Nat) (cs : List Value) (x : Ent) (hx : entS.R w0 cs x) (hK : Blk w gb 48 cs) (hne : v.ownBlock ≠ some gb) :
  Calls Tryz.prog 112 #[v, .int .i64 (i : Int), .slice (some ⟨gb, 0, none⟩) 1 1] w fun e w' => ∃ v', e = .returned v' ∧ OwnSeq entS 48 w0 w' v' (insAt l i x) ∧ Below w0.heap.size w0 w' := by
 have hcl : cs.length = 7 := entS.len hx
 have h1c : ∀ u ∈ cs, u.oneCell' = true := entS.one hx
 by_cases hin : i = l.length
 ·subst hin
  have HX : Hid (SrcAt entS w0 w (.slice (some ⟨gb, 0, none⟩) 1 1) [x]) := Lib.hid (SrcAt.lit hx hK)
  have HO := Lib.hid hO
  have HB := Lib.hid hB
  have Hl := Lib.hid hl
  have HI : Hid (insAt l l.length x = l ++ [x]) := Lib.hid (by rw [insAt, List.take_length, List.drop_length])
  obtain ⟨A, c, rfl, k1, k2⟩ := (hO.at hB).slice
  have HLn : Hid (l.length + ([x] : List Ent).length ≤ 100000000) := Lib.hid (by have := Hl.out; simp; omega)
  have hnn : ((l.length : Int) == (l.length : Int)) = true := by simp
  clear hO hB hx hK hne hcl h1c
  go_enter Tryz.func112, Tryz.ntmps112
  go_wp2_with (at_builtin; refine append_seqO (w0 := w0) (vx := .slice (some ⟨gb, 0, none⟩) 1 1) (us := [x]) Tryz.elemEnt rfl _ _ rfl rfl HO.out rfl HX.out HLn.out HB.out ?_; intro va wa hob hgb hor hbb; have KO := Lib.hid hob; have KB := Lib.hid hbb; clear hob hgb hor hbb)
  all_goals (try go_ret)
  all_goals exact ⟨_, rfl, by rw [HI.out]; exact KO.out, KB.out⟩
 ·have hlt : i < l.length := by omega
  obtain ⟨css, hown, hbt⟩ := hO
  have hlens := hbt.lens
  have hclen := hbt.len
  obtain ⟨g, cap, cur, rfl, hgr, hcur, hnc, hcm, hcs, hxs⟩ := own_row hown (by omega)
  have hcs : cur.size = cap * 7 := hcs
  have hxs : cur.toList.take (l.length * 7) = css.flatten := hxs
  have hfl : css.flatten.length = l.length * 7 := by rw [flat_len hlens, hclen]; rfl
  have HFin : Hid (∀ (W : World) (g' cap' : Nat) (cu : Array Value), W.heap[g']? = some (.cells cu 48 (0, 0)) → cu.size = cap' * 7 → l.length + 1 ≤ cap' → cap' ≤ maxLen → w0.heap.size ≤ g' → cu.toList.take ((l.length + 1) * 7) = cur.toList.take (i * 7) ++ cs ++ (cur.toList.take (l.length * 7)).drop (i * 7) → OwnSeq entS 48 w0 W (.slice (some ⟨g', 0, none⟩) (l.length + 1) cap') (insAt l i x)) := Lib.hid (fun W g' cap' cu h1 h2 h3 h4 h5 h6 => by
   have hil : (insAt l i x).length = l.length + 1 := by rw [insAt, List.length_append, List.length_cons, List.length_take, List.length_drop]; omega
   refine ⟨css.take i ++ cs :: css.drop i, ?_, hbt.ins i hx⟩
   have e : (css.take i ++ cs :: css.drop i).flatten = cur.toList.take (i * 7) ++ cs ++ (cur.toList.take (l.length * 7)).drop (i * 7) := by
    rw [List.flatten_append, List.flatten_cons, flat_take hlens, flat_drop hlens, show entS.n = 7 from rfl, ← hxs, List.take_take, Nat.min_eq_left (Nat.mul_le_mul (by omega) (Nat.le_refl 7)), List.append_assoc]
   rw [hil, e]
   refine ⟨?_, .inr ⟨g', cap', cu, rfl, h5, h1, h3, h4, h2, h6⟩⟩
   rw [← e, List.flatten_append, List.flatten_cons, List.length_append, List.length_append, flat_take hlens, flat_drop hlens, List.length_take, List.length_drop, hfl, hcl, show entS.n = 7 from rfl]
   have := Nat.mul_le_mul (show i ≤ l.length by omega) (Nat.le_refl 7)
   omega)
  have hkb : gb < w.heap.size := hK.lt
  have hgb : g ≠ gb := fun e => hne (by rw [e]; rfl)
  have hgw : g < w.heap.size := (Array.getElem?_eq_some_iff.1 hcur).1
  have hcell : ∀ j u, (cur.toList)[j]? = some u → w.cell? ⟨g, j, none⟩ = some u := fun j u hj => by
   simp only [World.cell?, hcur]
   simpa using hj
  have hone : ∀ u ∈ cur.toList.take (l.length * 7), u.oneCell' = true := by rw [hxs]; exact hbt.ones
  obtain ⟨n, hn⟩ : ∃ n, l.length = n := ⟨_, rfl⟩
  rw [hn] at hnc hxs hfl HFin hone hlt hl ⊢
  have hm0 : i * 7 + 7 ≤ n * 7 := by
   have := Nat.mul_le_mul (show i + 1 ≤ n by omega) (Nat.le_refl 7)
   omega
  have hnk : n * 7 ≤ cap * 7 := Nat.mul_le_mul hnc (Nat.le_refl 7)
  obtain ⟨A, hA⟩ : ∃ A, cur.toList.take (i * 7) = A := ⟨_, rfl⟩
  obtain ⟨M, hM⟩ : ∃ M, (cur.toList.take (n * 7)).drop (i * 7) = M := ⟨_, rfl⟩
  have hAl : A.length = i * 7 := by rw [← hA, List.length_take, Array.length_toList, hcs]; omega
  have hMl : M.length = (n - i) * 7 := by rw [← hM, List.length_drop, List.length_take, Array.length_toList, hcs]; omega
  have hMc : ∀ j u, M[j]? = some u → w.cell? ⟨g, i * 7 + j, none⟩ = some u := fun j u hj => by
   rw [← hM, List.getElem?_drop, List.getElem?_take] at hj
   split at hj
   ·exact hcell _ u hj
   ·cases hj
  have hM1 : ∀ u ∈ M, u.oneCell' = true := fun u hu => hone u (by rw [← hM] at hu; exact List.mem_of_mem_drop hu)
  rw [hA, hM] at HFin
  have HB := Lib.hid hB
  have i1 : ((i : Int) == (n : Int)) = false := by rw [beq_eq_false_iff_ne]; omega
  have i2 : (i : Int) ≤ (n : Int) := by omega
  have i3 : (i : Int) ≤ (cap : Int) := by omega
  have i4 : ¬ (cap = i) := by omega
  have hsz : (Tryz.prog.info? 48).map (·.size) = some 7 := by kernel_rfl
  have hk2 : ∀ q : Nat, gb < w.heap.size := fun _ => hkb
  have hcap63 : cap ≤ 9223372036854775807 := by unfold maxLen at hcm; omega
  by_cases hroom : cap < n + 1
  ·have f1 : (cap : Int) < (n : Int) + 1 := by omega
   obtain ⟨G, ROW, W1, hap, hG, hGm, hN, hRs, hRt, hW1⟩ := append_zeros Tryz.elemEnt 3 Tryz.underlying3 w g i n cap cur hcur hcs hlt hnc hroom hl 41
   have hRl : i * 7 + 7 ≤ ROW.size := by
    have := Nat.mul_le_mul hG (Nat.le_refl 7)
    rw [hRs]; omega
   have hGk : (n + 1) * 7 ≤ G * 7 := Nat.mul_le_mul hG (Nat.le_refl 7)
   have hcp1 := run_copy_rowK W1 41 41 3 48 7 w.heap.size (i * 7) (n + 1 - i) (G - i) ⟨gb, 0, none⟩ 1 1 ROW 48 cs Tryz.underlying41 hsz hN (by rw [hcl, show Nat.min 1 (n + 1 - i) = 1 by simp only [Nat.min_def]; split <;> omega]) (fun j u hj => by
    rw [Addr.add_lit, Nat.zero_add]
    exact ((hK.kept hW1).cell hj)) (by rw [hcl]; exact hRl) h1c
   obtain ⟨W2, hW2⟩ : ∃ W2, W1.setRow w.heap.size (ROW.toList.take (i * 7) ++ cs ++ ROW.toList.drop (i * 7 + cs.length)).toArray = W2 := ⟨_, rfl⟩
   rw [hW2] at hcp1
   have hN2 : W2.heap[w.heap.size]? = some (.cells (ROW.toList.take (i * 7) ++ cs ++ ROW.toList.drop (i * 7 + cs.length)).toArray 48 (0, 0)) := by rw [← hW2]; exact setRow_heap _ _ _ _ _ _ hN
   have hg2 : W2.heap[g]? = w.heap[g]? := by rw [← hW2, setRow_other _ _ _ _ (by omega)]; exact hW1.block g hgw
   rw [hRt, hA] at hN2
   have hB2 : Below w0.heap.size w0 W2 := by rw [← hW2]; exact below_setRow (hB.trans (hW1.mono hB.size)) hB.size _
   have hcp2 := run_copy_rowK W2.drew 41 41 3 48 7 w.heap.size ((i + 1) * 7) (n + 1 - (i + 1)) (G - (i + 1)) ⟨g, i * 7, none⟩ (n - i) (cap - i) _ 48 M Tryz.underlying41 hsz hN2 (by rw [hMl, show Nat.min (n - i) (n + 1 - (i + 1)) = n - i by simp only [Nat.min_def]; split <;> omega]) (fun j u hj => by
    rw [Addr.add_lit]
    have := hMc j u hj
    show W2.cell? _ = _
    rwa [World.cell?_of_block (w := w) (by exact hg2)]) (by
    rw [List.size_toArray, List.length_append, List.length_append, hAl, hcl, hMl, List.length_drop, Array.length_toList, hRs]
    have := ins_len (k := 7) (show i ≤ n by omega)
    omega) hM1
   obtain ⟨W3, hW3⟩ : ∃ W3, W2.drew.setRow w.heap.size (((A ++ cs ++ ROW.toList.drop (i * 7 + cs.length)).toArray.toList.take ((i + 1) * 7)) ++ M ++ ((A ++ cs ++ ROW.toList.drop (i * 7 + cs.length)).toArray.toList.drop ((i + 1) * 7 + M.length))).toArray = W3 := ⟨_, rfl⟩
   rw [hW3] at hcp2
   have hN3 : W3.heap[w.heap.size]? = some (.cells (((A ++ cs ++ ROW.toList.drop (i * 7 + cs.length)).toArray.toList.take ((i + 1) * 7)) ++ M ++ ((A ++ cs ++ ROW.toList.drop (i * 7 + cs.length)).toArray.toList.drop ((i + 1) * 7 + M.length))).toArray 48 (0, 0)) := by rw [← hW3]; exact setRow_heap _ _ _ _ _ _ hN2
   have hB3 : Below w0.heap.size w0 W3 := by rw [← hW3]; exact below_setRow hB2.drew hB.size _
   have e1 : ((i + 1) * 7) = (A ++ cs).length := by rw [List.length_append, hAl, hcl, Nat.add_mul, Nat.one_mul]
   have ht : ((A ++ cs ++ ROW.toList.drop (i * 7 + cs.length)).toArray.toList.take ((i + 1) * 7)) = A ++ cs := by rw [List.toList_toArray, e1, List.take_left]
   rw [ht] at hN3
   have hFin := HFin.out W3 w.heap.size G _ hN3 (by
    rw [List.size_toArray, List.length_append, List.length_append, List.length_append, hAl, hcl, hMl, List.length_drop, List.toList_toArray, List.length_append, List.length_append, hAl, hcl, List.length_drop, Array.length_toList, hRs]
    have := ins_len (k := 7) (show i ≤ n by omega)
    omega) hG hGm hB.size (by rw [List.toList_toArray]; exact ins_take (by omega) hAl hcl hMl)
   have HAp := Lib.hid hap
   have HC1 := Lib.hid hcp1
   have HC2 := Lib.hid hcp2
   have HFn := Lib.hid hFin
   have HB3 := Lib.hid hB3
   have hG63 : G ≤ 9223372036854775807 := by unfold maxLen at hGm; omega
   have g1 : (i : Int) ≤ (G : Int) := by omega
   have g2 : ¬ (G = i) := by omega
   have g3 : ¬ (G = i + 1) := by omega
   have g4 : (n : Int) + 1 - (i : Int) = ((n + 1 - i : Nat) : Int) := by omega
   clear hap hcp1 hcp2 hFin hB3 hB2 hN hN2 hN3 hRs hRt hW1 hW2 hW3 hg2 ht e1 hRl hGk hown HFin hMc hM1 hAl hMl hA hM hone hcell hfl hxs hbt hlens hclen hcur hcs hK hx hB
   go_enter Tryz.func112, Tryz.ntmps112
   go_wp2_with (at_builtin; refine Lib.wpList_append_run _ rfl _ _ _ _ rfl _ _ rfl rfl _ _ HAp.out ?_)
   rw [HC1.out]
   go_upto_region 11 with fail
   have mixed : Tryz.prog.follows .mixedOrders = true := by kernel_rfl
   have hw1 : IntKind.i64.wrap ((i : Int) + 1) = (i : Int) + 1 := IntWalk.i64_in _ (by omega)
   have hb1 : (0 : Int) ≤ (i : Int) + 1 := by omega
   have htn : ((i : Int) + 1).toNat = i + 1 := by omega
   have hb4 : (i : Int) + 1 ≤ (n : Int) + 1 := by omega
   go_region_law_o (refine step_copy_runK rfl _ _ 41 41 rfl (.slice (some ⟨w.heap.size, (i + 1) * 7, none⟩) (n + 1 - (i + 1)) (G - (i + 1))) (.slice (some ⟨g, i * 7, none⟩) (n - i) (cap - i)) (by simp [Act.eval, Act.put]) (by simp [Act.eval, Act.put]) HC2.out ?_)
   go_wp2_with fail
   go_ret
   exact ⟨_, rfl, HFn.out, HB3.out⟩
  ·have f1 : ¬ (cap : Int) < (n : Int) + 1 := by omega
   have hrk : (n + 1) * 7 ≤ cap * 7 := Nat.mul_le_mul (by omega) (Nat.le_refl 7)
   have hil := ins_len (k := 7) (show i ≤ n by omega)
   have hi1 : (i + 1) * 7 = i * 7 + 7 := by rw [Nat.add_mul, Nat.one_mul]
   have hcp1 := run_copy_rowK w.drew 41 41 3 48 7 g ((i + 1) * 7) (n + 1 - (i + 1)) (cap - (i + 1)) ⟨g, i * 7, none⟩ (n + 1 - i) (cap - i) cur 48 M Tryz.underlying41 hsz hcur (by rw [hMl, show Nat.min (n + 1 - i) (n + 1 - (i + 1)) = n - i by simp only [Nat.min_def]; split <;> omega]) (fun j u hj => by
    rw [Addr.add_lit]
    exact hMc j u hj) (by rw [hMl, hi1, hcs]; omega) hM1
   obtain ⟨R, hR⟩ : ∃ R, cur.toList.drop ((i + 1) * 7 + M.length) = R := ⟨_, rfl⟩
   have hRl : R.length = cap * 7 - (n + 1) * 7 := by rw [← hR, List.length_drop, Array.length_toList, hcs, hMl, hi1]; omega
   rw [hR] at hcp1
   obtain ⟨r1, hr1⟩ : ∃ r1, (cur.toList.take ((i + 1) * 7) ++ M ++ R).toArray = r1 := ⟨_, rfl⟩
   rw [hr1] at hcp1
   obtain ⟨W1, hW1⟩ : ∃ W1, w.drew.setRow g r1 = W1 := ⟨_, rfl⟩
   rw [hW1] at hcp1
   have hN1 : W1.heap[g]? = some (.cells r1 48 (0, 0)) := by rw [← hW1]; exact setRow_heap _ _ _ _ _ _ hcur
   have hgb1 : W1.heap[gb]? = w.heap[gb]? := by rw [← hW1, setRow_other _ _ _ _ (fun e => hgb e.symm)]; rfl
   have hB1 : Below w0.heap.size w0 W1 := by rw [← hW1]; exact below_setRow hB.drew hgr _
   have ht1 : (cur.toList.take ((i + 1) * 7)).length = i * 7 + 7 := by rw [List.length_take, Array.length_toList, hcs, hi1]; omega
   have hr1s : r1.size = cap * 7 := by rw [← hr1, List.size_toArray, List.length_append, List.length_append, ht1, hMl, hRl]; omega
   have hr1t : r1.toList.take (i * 7) = A := by
    rw [← hr1, List.toList_toArray, List.append_assoc, List.take_append_of_le_length (by rw [ht1]; omega), List.take_take, Nat.min_eq_left (by rw [hi1]; omega), hA]
   have hr1d : r1.toList.drop (i * 7 + 7) = M ++ R := by
    rw [← hr1, List.toList_toArray, List.append_assoc, ← ht1, List.drop_left]
   have hcp2 := run_copy_rowK W1 41 41 3 48 7 g (i * 7) (n + 1 - i) (cap - i) ⟨gb, 0, none⟩ 1 1 r1 48 cs Tryz.underlying41 hsz hN1 (by rw [hcl, show Nat.min 1 (n + 1 - i) = 1 by simp only [Nat.min_def]; split <;> omega]) (fun j u hj => by
    rw [Addr.add_lit, Nat.zero_add]
    have := hK.cell hj
    rwa [World.cell?_of_block (w := w) (by exact hgb1)]) (by rw [hcl, hr1s]; omega) h1c
   rw [hcl, hr1t, hr1d] at hcp2
   obtain ⟨W2, hW2⟩ : ∃ W2, W1.setRow g (A ++ cs ++ (M ++ R)).toArray = W2 := ⟨_, rfl⟩
   rw [hW2] at hcp2
   have hN2 : W2.heap[g]? = some (.cells (A ++ cs ++ (M ++ R)).toArray 48 (0, 0)) := by rw [← hW2]; exact setRow_heap _ _ _ _ _ _ hN1
   have hB2 : Below w0.heap.size w0 W2 := by rw [← hW2]; exact below_setRow hB1 hgr _
   have hFin := HFin.out W2 g cap _ hN2 (by
    rw [List.size_toArray, List.length_append, List.length_append, List.length_append, hAl, hcl, hMl, hRl]
    omega) (by omega) hcm hgr (by rw [List.toList_toArray, ← List.append_assoc]; exact ins_take (by omega) hAl hcl hMl)
   have hov : ∀ lb cb, (callFunc 191 #[.slice (some ⟨gb, 0, none⟩) 1 1, .slice (some ⟨g, (i + 1) * 7, none⟩) lb cb]).run Tryz.prog w = .ok (.value (.bool false)) w := fun lb cb => by
    rw [run_callFunc_extern Tryz.func191 (by kernel_rfl) (by kernel_rfl) (by kernel_rfl) (e := Extern.SlicesOverlaps.overlaps #[41, 41] #[4]) (by kernel_rfl),
     Lib.run_overlaps_apart w 41 4 48 Tryz.underlying41 7 Tryz.sizeOf48 ⟨gb, 0, none⟩ ⟨g, (i + 1) * 7, none⟩ 1 1 lb cb (fun e => hgb e.symm) 48 48 cs.length cur.size (by
      have hK' : w.heap[gb]? = some (.cells cs.toArray 48 (0, 0)) := hK
      simp [World.shape?, hK']) (by simp [World.shape?, hcur]) (by rw [hcs]; omega) (by
      have hK' : w.heap[gb]? = some (.cells cs.toArray 48 (0, 0)) := hK
      simp [World.frozen?, hK']) (by
      have hK' : w.heap[gb]? = some (.cells cs.toArray 48 (0, 0)) := hK
      simp [World.frozen?, hK'])]
    rfl
   have HC1 := Lib.hid hcp1
   have HC2 := Lib.hid hcp2
   have HFn := Lib.hid hFin
   have HB2 := Lib.hid hB2
   have HOv := Lib.hid hov
   have g2 : ¬ (cap = i + 1) := by omega
   have g5 : (n : Int) + 1 ≤ (cap : Int) := by omega
   clear hcp1 hcp2 hFin hB2 hB1 hN1 hN2 hr1 hr1s hr1t hr1d hW1 hW2 hgb1 ht1 hR hRl hov hown HFin hMc hM1 hAl hMl hA hM hone hcell hfl hxs hbt hlens hclen hcur hcs hK hx hB hil hi1 hrk
   go_enter Tryz.func112, Tryz.ntmps112
   go_upto_region 14 with fail
   have hov := HOv.out
   go_upto_region 15 with (simp only [hov])
   clear hov
   have mixed : Tryz.prog.follows .mixedOrders = true := by kernel_rfl
   have hw1 : IntKind.i64.wrap ((i : Int) + 1) = (i : Int) + 1 := IntWalk.i64_in _ (by omega)
   have hb1 : (0 : Int) ≤ (i : Int) + 1 := by omega
   have htn : ((i : Int) + 1).toNat = i + 1 := by omega
   have hb4 : (i : Int) + 1 ≤ (n : Int) + 1 := by omega
   have hb5 : (i : Int) ≤ (n : Int) + 1 := by omega
   go_region_law_o (refine step_copy_runK rfl _ _ 41 41 rfl (.slice (some ⟨g, (i + 1) * 7, none⟩) (n + 1 - (i + 1)) (cap - (i + 1))) (.slice (some ⟨g, i * 7, none⟩) (n + 1 - i) (cap - i)) (by simp [Act.eval, Act.put]) (by simp [Act.eval, Act.put]) HC1.out ?_)
   clear hw1 htn
   go_wp2_with fail
   rw [HC2.out]
   go_wp2_with fail
   go_ret
   exact ⟨_, rfl, HFn.out, HB2.out⟩
end
end Go.Proofs.YtbccghbngaiceaaGreatDoor
