/-
 slices.SortFunc on a row of frames.
 WALK: collect.Collect.
-/
import Derived.Test.YtnlnmfkmbpihhaaGreatDoorCoK
import Derived.Test.YtnlnmfkmbpihhaaGreatDoorCoD
import Derived.Test.YtnlnmfkmbpihhaaGreatDoorOpnD
import Derived.Test.YtnlnmfkmbpihhaaGreatDoorCoP
import Derived.Test.YtnlnmfkmbpihhaaGreatDoorCoM
namespace Go.Proofs.YtnlnmfkmbpihhaaGreatDoor
open Go.RowKit Go.Sort

theorem frm_holds {W : World} {B g cap : Nat} {l : List Frm} (h : W.ownsRow B 34 9 (.slice (some ⟨g, 0, none⟩) l.length cap) l.length (l.flatMap Frm.cells)) : HoldsK Frm.cells 9 W g 0 l.toArray := fun j hj => by
 have hj2 : j < l.length * 9 := by simpa using hj
 obtain ⟨i, c, rfl, hc⟩ : ∃ i c, j = i * 9 + c ∧ c < 9 := ⟨j / 9, j % 9, by omega, by omega⟩
 have hi : i < l.length := by omega
 obtain ⟨f, hf⟩ : ∃ f, l[i]? = some f := ⟨_, List.getElem?_eq_getElem hi⟩
 have hlen : f.cells.length = 9 := rfl
 refine ⟨?_, by rw [Nat.zero_add]; exact h.frozenAt (i * 9 + c)⟩
 rw [Nat.zero_add, h.cellAt (i * 9 + c) (by omega), frm_flat l i hf c hc, get_flatK _ _ _ _ (by simpa using hj2), show (i * 9 + c) / 9 = i by omega, show (i * 9 + c) % 9 = c by omega]
 have e : l.toArray[i]! = f := by
  rw [getElem!_pos l.toArray i (by simpa using hi)]
  simpa using (List.getElem?_eq_some_iff.1 hf).2
 rw [e, List.getElem?_eq_getElem (by omega)]
 simp [getElem!_pos, hc, hlen]
theorem frms_of_holds {W : World} {g cap : Nat} {d : Array Frm} (h : HoldsK Frm.cells 9 W g 0 d) (h1 : d.size ≤ cap) (h2 : cap ≤ 9223372036854775807) : FrmsAt W (.slice (some ⟨g, 0, none⟩) d.size cap) d.toList := by
 refine ⟨_, cap, by simp, by simpa using h1, h2, fun i f hf => ⟨g, 0, rfl, fun j u hu => ?_⟩⟩
 have hj : j < 9 := (List.getElem?_eq_some_iff.1 hu).1
 obtain ⟨hi, hfi⟩ := List.getElem?_eq_some_iff.1 hf
 have hc := h.cell (i := i) (c := j) (by simpa using hi) hj
 have e : d[i]! = f := by
  rw [getElem!_pos d i (by simpa using hi)]
  simpa using hfi
 rw [e] at hc
 obtain ⟨q1, q2⟩ := List.getElem?_eq_some_iff.1 hu
 rw [getElem!_pos f.cells j q1, q2] at hc
 exact hc.1
set_option maxRecDepth 100000 in
theorem sortF_any (W : World) (B : Nat) (v : Value) (l : List Frm) (hl : l.length ≤ 1000000) (hown : W.ownsRow B 34 9 v l.length (l.flatMap Frm.cells)) :
  Calls Tryz.prog 58 #[v, .func (.func 59) #[] #[]] W fun e w' => e = .returned (.tuple #[]) ∧ ∃ l2 : List Frm, l2.Perm l ∧ l2.Pairwise (fun x y => ltOf cmpF y x = false) ∧ FrmsAt w' v l2 ∧ ∀ w0, Below B w0 W → Below B w0 w' := by
 rcases hown.2 with ⟨rfl, h0⟩ | ⟨g, cap, cur, rfl, hb, hg, h1, h2, _⟩
 ·obtain rfl := List.length_eq_zero_iff.1 h0
  refine (AnyF.slices_SortFunc_none Tryz.sortFrm none 0 (.func (.func 59) #[] #[]) W).mono ?_
  rintro e w' ⟨rfl, rfl⟩
  exact ⟨rfl, [], List.Perm.refl _, List.Pairwise.nil, ⟨none, 0, rfl, Nat.le_refl _, by omega, fun i x hx => by cases hx⟩, fun _ h => h⟩
 ·have hH := frm_holds hown
  have hlt := (hown.lt g rfl).2
  have eg : ∀ args w, (callFunc 59 args).run Tryz.prog w = .ok (.enter 59 args) w := enters_of Tryz.func59 (by kernel_rfl) rfl
  have hcmp : CmpLays Tryz.prog 59 #[] Frm.cells 9 cmpF g 0 l.toArray.size W := fun m os dk hs x y => cmp_any _ x y
  have hS := AnyQ.slices_SortFunc Tryz.sortFrm 9 (fun w => by kernel_rfl) (fun w => by kernel_rfl) Frm.cells (fun _ => rfl) (fun x v hv => by
   unfold Frm.cells at hv
   simp at hv
   rcases hv with rfl | rfl | rfl | rfl | rfl | rfl | rfl | rfl | rfl <;> rfl) cmpF cmpF_tot.swo 59 #[] g 0 cap l.toArray W eg hcmp hH hlt (by simp; omega)
  rw [show l.toArray.size = l.length by simp] at hS
  refine hS.mono ?_
  rintro e w' ⟨rfl, d, n, os, hp, hso, rfl⟩
  have hds : d.size = l.length := by simpa using hp.1
  have hW := holdsK_sortWorldK_c Frm.cells 9 W g 0 l.toArray d n os hH hlt (by simpa using hds)
  have hf := frms_of_holds (cap := cap) hW (by omega) (by unfold maxLen at h2; omega)
  rw [hds] at hf
  refine ⟨rfl, d.toList, ?_, ?_, hf, fun w0 h => ?_⟩
  ·have h3 := hp.2.2
   simp at h3
   rwa [List.take_of_length_le (by simp [hds])] at h3
  ·refine List.pairwise_iff_getElem.2 fun i j hi hj hij => ?_
   have h3 := hso i j (Nat.zero_le _) hij (by simpa [hds] using hj)
   rw [getElem!_pos d i (by simpa using hi), getElem!_pos d j (by simpa using hj)] at h3
   simpa using h3
  ·have hbp := Lib.below_putRow (enc := id) (q := n) (d := flatK Frm.cells 9 d) h hb
   refine hbp.trans ?_
   exact ⟨rfl, rfl, rfl, by simp [sortWorldK, putRowK, grow], fun k hk => by
    have hk2 := Nat.lt_of_lt_of_le hk (Nat.le_trans (Nat.le_refl B) (Nat.le_trans hb (Nat.le_of_lt hlt)))
    simp [sortWorldK, putRowK, grow, Array.getElem?_append, putRow, mapBlock, Sort.ahead, hk2]⟩
end Go.Proofs.YtnlnmfkmbpihhaaGreatDoor

namespace Go.Proofs.YtnlnmfkmbpihhaaGreatDoor
open Go.RowKit Go.Maps

/-- 'm[k]' at bools, guarded or not. -/
theorem look_boolG {H : Type} {P : Program} (w : World) {ops : Array Oper} {rest : List Oper} {o : Oper} {a : Act} {Q : Exit → Act → World → Prop}
  (hw : Region.wanted o (yielded ops a.tmps) = true) (m x : Operand) (t : TypeId) (hop : o.op = Op.lookup t m x false)
  (k e : TypeId) (K : Keyed P k) (ht : P.underlying t = some (.map k e)) (he : P.underlying e = some .bool) (hz : (zeroValue e).run P w = .ok (.bool false) w) (b n : Nat) (D : DataW H)
  (hm : a.eval m = .map (some b)) (hown : w.ownsMap P k (plainElem P e) b n D) (key : Value) (kl : Lit) (hx : a.eval x = key) (hkey : keyOf P k key = some kl) (c : Bool) (hc : D.atKey kl (.lit (.bool false)) = .lit (.bool c))
  (hK : wpList P ops Q rest (a.put o.dst (.bool c)) w) :
  wpList P ops Q (o :: rest) a w := by
 refine wpList_step fun K' hK' => ?_
 rw [if_pos hw]
 obtain ⟨v, ps, hrun, hv⟩ := hown.lookup K ht hz (plainElem_bool he false) hkey
 obtain ⟨c', rfl, hc'⟩ : ∃ c, v = .bool c ∧ (D.atKey kl (.lit (.bool false)), ps) = (.lit (.bool c), []) := by
  unfold plainElem at hv
  rw [he] at hv
  cases v <;> simp at hv
  exact ⟨_, rfl, by rw [hv.1, hv.2]⟩
 simp only [Prod.mk.injEq] at hc'
 rw [hc] at hc'
 have : c = c' := by simpa using hc'.1
 subst this
 unfold Oper.wp
 simp [execOp, hop, hm, hx, hrun, Result.andThen]
 exact hK' _ _ hK
theorem own_map_heapG {W W' : World} {b n : Nat} {k : TypeId} {R : Value → Option (DataW Unit × List MemPlace)} {D : DataW Unit} (h : W.ownsMap Tryz.prog k R b n D) (hb : Below W.heap.size W W') : W'.ownsMap Tryz.prog k R b n D := by
 obtain ⟨es, clock, h1, h2⟩ := h
 exact ⟨es, clock, (hb.block b (Array.getElem?_eq_some_iff.1 h1).1).trans h1, h2⟩
theorem cell_lt {W : World} {b t : Nat} {u : Value} (h : W.cell? ⟨b, t, none⟩ = some u) : b < W.heap.size := by
 rcases Nat.lt_or_ge b W.heap.size with h' | h'
 ·exact h'
 ·simp [World.cell?, Array.getElem?_eq_none h'] at h
theorem own_map_heapE {W W' : World} {b n : Nat} {k : TypeId} {R : Value → Option (DataW Unit × List MemPlace)} {D : DataW Unit} (h : W.ownsMap Tryz.prog k R b n D) (e : W'.heap[b]? = W.heap[b]?) : W'.ownsMap Tryz.prog k R b n D := by
 obtain ⟨es, clock, h1, h2⟩ := h
 exact ⟨es, clock, e.trans h1, h2⟩
theorem own_farE {W : World} {B n size : Nat} {t : TypeId} {v : Value} {xs : List Value} (h : W.ownsRow B t size v n xs) {p : Addr} (hne : ∀ j, v.ownBlock = some j → j ≠ p.block) (u : Value) : (W.setCell p u).ownsRow B t size v n xs :=
 ⟨h.1, h.2.imp id fun ⟨g, cap, cur, e, hb, hg, r⟩ => ⟨g, cap, cur, e, hb, (Below.heap_setCell _ _ _ _ (by subst e; exact hne g rfl)).trans hg, r⟩⟩
theorem own_sliceQ {W : World} {B n size : Nat} {t : TypeId} {v : Value} {xs : List Value} (h : W.ownsRow B t size v n xs) : ∃ A c, v = .slice A n c := by
 rcases h.2 with ⟨rfl, rfl⟩ | ⟨g, cap, cur, rfl, _⟩
 ·exact ⟨_, _, rfl⟩
 ·exact ⟨_, _, rfl⟩
/-- The distinct frames of an archive, in the order in which they are met. -/
def dis (ar : Int) (l : List Frm) (x : Sgt) : List Frm := if x.f.a = ar then if x.f ∈ l then l else l ++ [x.f] else l
theorem cell_heap {W W' : World} {b t : Nat} {u : Value} (h : W'.heap[b]? = W.heap[b]?) (hc : W.cell? ⟨b, t, none⟩ = some u) : W'.cell? ⟨b, t, none⟩ = some u := (World.cell?_of_block h).trans hc
theorem map_ne {W : World} {H : Type} {k : TypeId} {R : Value → Option (DataW H × List MemPlace)} {b m n t : Nat} {D : DataW H} {u : Value} (hm : W.ownsMap Tryz.prog k R m n D) (h : W.cell? ⟨b, t, none⟩ = some u) : b ≠ m := by
 rintro rfl
 obtain ⟨es, clock, h1, _⟩ := hm
 simp [World.cell?, h1] at h

set_option maxRecDepth 100000 in
set_option maxHeartbeats 16000000 in
theorem coll_any (w : World) (vl : Value) (ar : Int) (xs : List Sgt) (hl : xs.length ≤ 900000) (hx : ∀ x ∈ xs, frmKey.OK x.f)
  (hP : ∀ W, Below w.heap.size w W → Calls Tryz.prog 19 #[vl] W fun e w' => ∃ v, e = .returned v ∧ SgtsAt w' v xs ∧ Below W.heap.size W w') :
  Calls Tryz.prog 26 #[vl, .int .u32 ar] w fun e w' => ∃ v l2, e = .returned (.agg #[.int .u32 ar, v]) ∧ l2.Perm (xs.foldl (dis ar) []) ∧ l2.Pairwise (fun x y => ltOf cmpF y x = false) ∧ FrmsAt w' v l2 ∧ Below w.heap.size w w' := by
 have HP := Lib.hid hP
 have Hx := Lib.hid hx
 obtain ⟨R, hR⟩ : ∃ R, xs.foldl (dis ar) [] = R := ⟨_, rfl⟩
 rw [hR]
 have HR := Lib.hid hR
 clear hR hP hx
 have hmm := @run_makeMap Tryz.prog
 have hb1 := (((Below.refl w.heap.size w).alloc (Nat.le_refl _) (.cells #[.int .u32 0, .slice none 0 0] 55)).alloc (by simp) (.map #[] 0)).alloc (by simp; omega) (.cells #[.int .u32 ar, .slice none 0 0] 55)
 have HB1 := Lib.hid hb1
 have h1 := (((Blk.new w 55 [.int .u32 0, .slice none 0 0]).alloc (.map #[] 0)).alloc (.cells #[.int .u32 ar, .slice none 0 0] 55))
 have H1 := Lib.hid h1
 have h2 := Blk.new ((w.alloc (.cells #[.int .u32 0, .slice none 0 0] 55)).alloc (.map #[] 0)) 55 [.int .u32 ar, .slice none 0 0]
 rw [show ((w.alloc (.cells #[.int .u32 0, .slice none 0 0] 55)).alloc (.map #[] 0)).heap.size = w.heap.size + 1 + 1 by simp] at h2
 have H2 := Lib.hid h2
 have hm := (World.ownsMap_made (H := Unit) (w.alloc (.cells #[.int .u32 0, .slice none 0 0] 55)) Tryz.prog 34 (plainElem Tryz.prog 4)).alloc (.cells #[.int .u32 ar, .slice none 0 0] 55)
 rw [show (w.alloc (.cells #[.int .u32 0, .slice none 0 0] 55)).heap.size = w.heap.size + 1 by simp] at hm
 have HM := Lib.hid hm
 change Hid (Blk (((w.alloc (.cells #[.int .u32 0, .slice none 0 0] 55)).alloc (.map #[] 0)).alloc (.cells #[.int .u32 ar, .slice none 0 0] 55)) _ _ _) at H2
 change Hid (Blk (((w.alloc (.cells #[.int .u32 0, .slice none 0 0] 55)).alloc (.map #[] 0)).alloc (.cells #[.int .u32 ar, .slice none 0 0] 55)) _ _ _) at H1
 have hzs : (((w.alloc (.cells #[.int .u32 0, .slice none 0 0] 55)).alloc (.map #[] 0)).alloc (.cells #[.int .u32 ar, .slice none 0 0] 55)).heap.size = w.heap.size + 3 := by simp
 clear hb1 h1 h2 hm
 obtain ⟨iF, hi, hq0, hq1, hq2⟩ := info_parts Tryz.infoFrm
 have HiF : Hid (Tryz.prog.info? 34 = some iF ∧ iF.zero = some zeroF ∧ iF.size = 9 ∧ iF.bytes = 80) := Lib.hid ⟨hi, hq0, hq1, hq2⟩
 clear hi hq0 hq1 hq2
 have Hzs := Lib.hid hzs
 clear hzs
 go_enter Tryz.func26, Tryz.ntmps26
 go_upto_region 3 with fail
 clear hmm
 generalize ((w.alloc (.cells #[.int .u32 0, .slice none 0 0] 55)).alloc (.map #[] 0)).alloc (.cells #[.int .u32 ar, .slice none 0 0] 55) = wz at *
 go_wp2_with (go_at_call 19; refine (HP.out _ HB1.out).mono ?_; rintro e w1 ⟨vs, rfl, hs, hb1⟩; obtain ⟨A, c, rfl, hsc⟩ := hs.all; have HS1 : Hid (SgC w1 A xs) := Lib.hid hsc; have hlt1 := hb1.size; rw [Hzs.out] at hlt1; have H12 := Lib.hid (H1.out.kept hb1); have H22 := Lib.hid (H2.out.kept hb1); have HM2 := Lib.hid (own_map_heapG HM.out hb1); have HB2 := Lib.hid (HB1.out.trans (hb1.mono HB1.out.size)); clear hb1 hs hsc H1 H2 HM HB1)
 have HNE := Lib.hid (fun b t u (h : w1.cell? ⟨b, t, none⟩ = some (.int .i64 u)) => (⟨map_ne HM2.out h, coll_ne H22.out h, cell_lt h⟩ : b ≠ w.heap.size + 1 ∧ b ≠ w.heap.size + 1 + 1 ∧ b < w1.heap.size))
 go_loopw [15] (fun x wr => ∃ (i : Nat) (l : List Frm) (Av : Option Addr) (cv : Nat) (D : DataW Unit), i ≤ xs.length ∧ x = .int .i64 (i : Int) ∧ l.length ≤ i ∧ R = (xs.drop i).foldl (dis ar) l ∧ wr.ownsRow w1.heap.size 34 9 (.slice Av l.length cv) l.length (l.flatMap Frm.cells) ∧ Blk wr (w.heap.size + 1 + 1) 55 [.int .u32 ar, .slice Av l.length cv] ∧ wr.ownsMap Tryz.prog 34 (plainElem Tryz.prog 4) (w.heap.size + 1) i D ∧ frmKey.Met D l ∧ (∀ k, k < w1.heap.size → k ≠ w.heap.size + 1 → k ≠ w.heap.size + 1 + 1 → wr.heap[k]? = w1.heap[k]?) ∧ Below w.heap.size w wr ∧ w1.heap.size ≤ wr.heap.size) (fun x _ => xs.length - (intOf x).toNat)
 case atStart => exact ⟨0, [], none, 0, .map [], by omega, rfl, by simp, HR.out.symm, World.ownsRow_nil _ _ _ _, H22.out, HM2.out, frmKey.Met.empty, fun _ _ _ _ => rfl, HB2.out, Nat.le_refl _⟩
 case round =>
  obtain ⟨i, l, Av, cv, D, hi, rfl, hll, hr, ho, h2, hm, hmet, hk, hB, hbs⟩ := hrel
  clear HR HM2 H22 HB2
  have Hr := Lib.hid hr
  have Ho := Lib.hid ho
  have H2 := Lib.hid h2
  have HM := Lib.hid hm
  have HMet := Lib.hid hmet
  have HK := Lib.hid hk
  have HBr := Lib.hid hB
  clear hr ho h2 hm hmet hk hB
  by_cases h : i < xs.length
  ·have hiI : (i : Int) < xs.length := by omega
   obtain ⟨x, hxi⟩ : ∃ x, xs[i]? = some x := ⟨_, List.getElem?_eq_getElem h⟩
   have hok := Lib.hid (Hx.out x (List.mem_of_getElem? hxi))
   obtain ⟨b, o, rfl, h5⟩ := HS1.out i x hxi
   have hd : xs.drop i = x :: xs.drop (i + 1) := by
    obtain ⟨q1, q2⟩ := List.getElem?_eq_some_iff.1 hxi
    rw [List.drop_eq_getElem_cons q1, q2]
   have hr := Hr.out
   rw [hd, List.foldl_cons] at hr
   obtain ⟨n1, n2, n3⟩ := HNE.out b _ _ (h5 0 _ rfl)
   have hcw : ∀ j u, x.cells[j]? = some u → wr.cell? ⟨b, o + i * 14 + j, none⟩ = some u := fun j u hu => cell_heap (HK.out b n3 n1 n2) (h5 j u hu)
   obtain ⟨pc, at_, ⟨k0, r0, s0, i0, l0, d0, p0, a0, t0⟩, ⟨q1, q2, q3⟩⟩ := x
   have c0 := hcw 0 _ rfl
   have c1 := hcw 1 _ rfl
   have c2 := hcw 2 _ rfl
   have c3 := hcw 3 _ rfl
   have c4 := hcw 4 _ rfl
   have c5 := hcw 5 _ rfl
   have c6 := hcw 6 _ rfl
   have c7 := hcw 7 _ rfl
   have c8 := hcw 8 _ rfl
   have c9 := hcw 9 _ rfl
   have c10 := hcw 10 _ rfl
   have c11 := hcw 11 _ rfl
   have c12 := hcw 12 _ rfl
   have c13 := hcw 13 _ rfl
   dsimp only at c0 c1 c2 c3 c4 c5 c6 c7 c8 c9 c10 c11 c12 c13
   rw [Nat.add_zero] at c0
   have Hr2 := Lib.hid hr
   clear hr h5 hd hxi hcw Hr n1 n2 n3
   have hF := Blk.new wr 38 [.int .i64 pc, .int .i64 (at_ : Int), .int .i64 k0, .int .i64 r0, .int .i64 s0, .int .i64 i0, .int .i64 l0, .int .i64 d0, .int .i64 p0, .int .u32 a0, .string t0, .int .i64 q1, .int .i64 q2, .int .i64 q3]
   change Blk (wr.alloc (.cells #[.int .i64 pc, .int .i64 (at_ : Int), .int .i64 k0, .int .i64 r0, .int .i64 s0, .int .i64 i0, .int .i64 l0, .int .i64 d0, .int .i64 p0, .int .u32 a0, .string t0, .int .i64 q1, .int .i64 q2, .int .i64 q3] 38)) _ _ _ at hF
   have hBy := HBr.out.alloc HBr.out.size (.cells #[.int .i64 pc, .int .i64 (at_ : Int), .int .i64 k0, .int .i64 r0, .int .i64 s0, .int .i64 i0, .int .i64 l0, .int .i64 d0, .int .i64 p0, .int .u32 a0, .string t0, .int .i64 q1, .int .i64 q2, .int .i64 q3] 38)
   have hmy := HM.out.alloc (.cells #[.int .i64 pc, .int .i64 (at_ : Int), .int .i64 k0, .int .i64 r0, .int .i64 s0, .int .i64 i0, .int .i64 l0, .int .i64 d0, .int .i64 p0, .int .u32 a0, .string t0, .int .i64 q1, .int .i64 q2, .int .i64 q3] 38)
   have h2y := H2.out.alloc (.cells #[.int .i64 pc, .int .i64 (at_ : Int), .int .i64 k0, .int .i64 r0, .int .i64 s0, .int .i64 i0, .int .i64 l0, .int .i64 d0, .int .i64 p0, .int .u32 a0, .string t0, .int .i64 q1, .int .i64 q2, .int .i64 q3] 38)
   have hoy := Ho.out.alloc (.cells #[.int .i64 pc, .int .i64 (at_ : Int), .int .i64 k0, .int .i64 r0, .int .i64 s0, .int .i64 i0, .int .i64 l0, .int .i64 d0, .int .i64 p0, .int .u32 a0, .string t0, .int .i64 q1, .int .i64 q2, .int .i64 q3] 38)
   have hky : ∀ k, k < w1.heap.size → k ≠ w.heap.size + 1 → k ≠ w.heap.size + 1 + 1 → (wr.alloc (.cells #[.int .i64 pc, .int .i64 (at_ : Int), .int .i64 k0, .int .i64 r0, .int .i64 s0, .int .i64 i0, .int .i64 l0, .int .i64 d0, .int .i64 p0, .int .u32 a0, .string t0, .int .i64 q1, .int .i64 q2, .int .i64 q3] 38)).heap[k]? = w1.heap[k]? := fun k z1 z2 z3 => (((Below.refl wr.heap.size wr).alloc (Nat.le_refl _) (.cells #[.int .i64 pc, .int .i64 (at_ : Int), .int .i64 k0, .int .i64 r0, .int .i64 s0, .int .i64 i0, .int .i64 l0, .int .i64 d0, .int .i64 p0, .int .u32 a0, .string t0, .int .i64 q1, .int .i64 q2, .int .i64 q3] 38)).block k (by omega)).trans (HK.out k z1 z2 z3)
   have hsy : w1.heap.size ≤ (wr.alloc (.cells #[.int .i64 pc, .int .i64 (at_ : Int), .int .i64 k0, .int .i64 r0, .int .i64 s0, .int .i64 i0, .int .i64 l0, .int .i64 d0, .int .i64 p0, .int .u32 a0, .string t0, .int .i64 q1, .int .i64 q2, .int .i64 q3] 38)).heap.size := by simp; omega
   go_upto_region 6 with fail
   clear c0 c1 c2 c3 c4 c5 c6 c7 c8 c9 c10 c11 c12 c13
   have hlb := hF.lt
   generalize wr.alloc (.cells #[.int .i64 pc, .int .i64 (at_ : Int), .int .i64 k0, .int .i64 r0, .int .i64 s0, .int .i64 i0, .int .i64 l0, .int .i64 d0, .int .i64 p0, .int .u32 a0, .string t0, .int .i64 q1, .int .i64 q2, .int .i64 q3] 38) = wy at *
   have hF0 := Lib.hid hF
   have HBy := Lib.hid hBy
   have HMy := Lib.hid hmy
   have H2y := Lib.hid h2y
   have Hoy := Lib.hid hoy
   have HKy := Lib.hid hky
   have g2 := hF.cell (i := 2) rfl
   have g3 := hF.cell (i := 3) rfl
   have g4 := hF.cell (i := 4) rfl
   have g5 := hF.cell (i := 5) rfl
   have g6 := hF.cell (i := 6) rfl
   have g7 := hF.cell (i := 7) rfl
   have g8 := hF.cell (i := 8) rfl
   have g9 := hF.cell (i := 9) rfl
   have g10 := hF.cell (i := 10) rfl
   clear hF hBy hmy h2y hoy hky HBr HM H2 Ho HK
   unfold dis at Hr2
   dsimp only at Hr2
   by_cases ha : a0 = ar
   ·subst ha
    rw [if_pos rfl] at Hr2
    have Hkl : Hid (keyOf Tryz.prog 34 (.agg #[.int .i64 k0, .int .i64 r0, .int .i64 s0, .int .i64 i0, .int .i64 l0, .int .i64 d0, .int .i64 p0, .int .u32 a0, .string t0]) = some (frmKey.K ⟨k0, r0, s0, i0, l0, d0, p0, a0, t0⟩)) := Lib.hid (frmKey.key hok.out)
    by_cases hin : ⟨k0, r0, s0, i0, l0, d0, p0, a0, t0⟩ ∈ l
    ·rw [if_pos hin] at Hr2
     have Hat : Hid (D.atKey (frmKey.K ⟨k0, r0, s0, i0, l0, d0, p0, a0, t0⟩) (.lit (.bool false)) = .lit (.bool true)) := Lib.hid (by rw [HMet.out.2 _ hok.out]; simp [hin])
     clear hin
     go_wp2_with (refine look_boolG _ rfl _ _ 58 rfl 34 4 frmKey.keyed Tryz.underlying58 Tryz.underlying4 (by first | exact Tryz.zeroValue4 _ | rfl) (w.heap.size + 1) i D rfl HMy.out _ _ rfl Hkl.out true Hat.out ?_)
     go_roundw
     case rel => exact ⟨i + 1, l, Av, cv, D, by omega, by go_num, by omega, Hr2.out, Hoy.out, H2y.out, HMy.out.mono (by omega), HMet.out, HKy.out, HBy.out, hsy⟩
     case measure => simp [intOf]; omega
    ·rw [if_neg hin] at Hr2
     have Hat : Hid (D.atKey (frmKey.K ⟨k0, r0, s0, i0, l0, d0, p0, a0, t0⟩) (.lit (.bool false)) = .lit (.bool false)) := Lib.hid (by rw [HMet.out.2 _ hok.out]; simp [hin])
     clear hin
     go_upto_region 8 with (first
      | (refine look_boolG _ rfl _ _ 58 rfl 34 4 frmKey.keyed Tryz.underlying58 Tryz.underlying4 (by first | exact Tryz.zeroValue4 _ | rfl) (w.heap.size + 1) i D rfl HMy.out _ _ rfl Hkl.out false Hat.out ?_)
      | (at_mapUpdate; refine wpList_mapUpdate_own _ rfl _ _ _ 58 rfl 34 4 frmKey.keyed Tryz.underlying58 _ (w.heap.size + 1) i _ rfl HMy.out (by unfold maxLen; omega) _ _ _ rfl rfl Hkl.out _ [] (plainElem_bool Tryz.underlying4 true) ?_; intro w7 hown7 hgrow7; have Hown7 := Lib.hid hown7; have Hgr7 := Lib.hid hgrow7; clear hown7 hgrow7))
     clear g2 g3 g4 g5 g6 g7 g8 g9 g10
     have hs7 := Hgr7.out.size
     have HB7 := Lib.hid (HBy.out.grown Hgr7.out HBy.out.size (fun j hj => by cases hj; omega))
     have h27 := H2y.out.of_heap (Hgr7.out.block _ H2y.out.lt (fun e => by have := Option.some.inj e; omega))
     have hF7 := hF0.out.of_heap (Hgr7.out.block _ hF0.out.lt (fun e => by have := Option.some.inj e; omega))
     have Ho7 := Lib.hid (own_putC Hoy.out Hgr7.out (fun k hk e => by have q1 := own_geC Hoy.out k hk; have q2 := Option.some.inj e; omega))
     have HK7 : Hid (∀ k, k < w1.heap.size → k ≠ w.heap.size + 1 → k ≠ w.heap.size + 1 + 1 → w7.heap[k]? = w1.heap[k]?) := Lib.hid (fun k z1 z2 z3 => (Hgr7.out.block k (by omega) (fun e => z2 (Option.some.inj e))).trans (HKy.out k z1 z2 z3))
     have HMet7 := Lib.hid (HMet.out.put hok.out)
     have z1 := h27.cell (i := 1) rfl
     have g2 := hF7.cell (i := 2) rfl
     have g3 := hF7.cell (i := 3) rfl
     have g4 := hF7.cell (i := 4) rfl
     have g5 := hF7.cell (i := 5) rfl
     have g6 := hF7.cell (i := 6) rfl
     have g7 := hF7.cell (i := 7) rfl
     have g8 := hF7.cell (i := 8) rfl
     have g9 := hF7.cell (i := 9) rfl
     have g10 := hF7.cell (i := 10) rfl
     have H27 := Lib.hid h27
     clear h27 hF7 Hgr7 HBy H2y hF0 Hoy HKy HMet HMy Hat
     have Hnewsa : Hid (∀ (j : Nat) (x : Value), ([.int .i64 k0, .int .i64 r0, .int .i64 s0, .int .i64 i0, .int .i64 l0, .int .i64 d0, .int .i64 p0, .int .u32 a0, .string t0] : List Value)[j]? = some x → (w7.alloc (.cells #[.int .i64 k0, .int .i64 r0, .int .i64 s0, .int .i64 i0, .int .i64 l0, .int .i64 d0, .int .i64 p0, .int .u32 a0, .string t0] 34)).cell? ((⟨w7.heap.size, 0, none⟩ : Addr).add j) = some x) := Lib.hid (fun j x hj => by
      rw [Addr.add_lit, Nat.zero_add]
      exact (Blk.new w7 34 [.int .i64 k0, .int .i64 r0, .int .i64 s0, .int .i64 i0, .int .i64 l0, .int .i64 d0, .int .i64 p0, .int .u32 a0, .string t0]).cell hj)
     have Honea : Hid (∀ x ∈ ([.int .i64 k0, .int .i64 r0, .int .i64 s0, .int .i64 i0, .int .i64 l0, .int .i64 d0, .int .i64 p0, .int .u32 a0, .string t0] : List Value), x.oneCell' = true) := Lib.hid (by simp [Value.oneCell'])
     have HUa := Lib.hid (Ho7.out.alloc (.cells #[.int .i64 k0, .int .i64 r0, .int .i64 s0, .int .i64 i0, .int .i64 l0, .int .i64 d0, .int .i64 p0, .int .u32 a0, .string t0] 34))
     have HBa := Lib.hid (HB7.out.alloc HB7.out.size (.cells #[.int .i64 k0, .int .i64 r0, .int .i64 s0, .int .i64 i0, .int .i64 l0, .int .i64 d0, .int .i64 p0, .int .u32 a0, .string t0] 34))
     have H2b := Lib.hid (H27.out.alloc (.cells #[.int .i64 k0, .int .i64 r0, .int .i64 s0, .int .i64 i0, .int .i64 l0, .int .i64 d0, .int .i64 p0, .int .u32 a0, .string t0] 34))
     have hba : w1.heap.size ≤ (w7.alloc (.cells #[.int .i64 k0, .int .i64 r0, .int .i64 s0, .int .i64 i0, .int .i64 l0, .int .i64 d0, .int .i64 p0, .int .u32 a0, .string t0] 34)).heap.size := by simp; omega
     go_wp2_with (at_builtin; refine append_atC _ rfl _ _ 49 rfl w1.heap.size 34 iF zeroF 9 80 Tryz.underlying49 HiF.out.1 HiF.out.2.1 HiF.out.2.2.1 HiF.out.2.2.2 rfl (by omega) (.slice Av l.length cv) l.length _ rfl HUa.out ⟨w7.heap.size, 0, none⟩ 1 1 _ rfl rfl Hnewsa.out Honea.out (by unfold maxLen; omega) (by omega) hba ?_; intro va wa hob hgb _; obtain ⟨Aa, ca, rfl⟩ := own_sliceQ hob; have KUa := Lib.hid hob; have KGa := Lib.hid hgb; have KBa := Lib.hid (HBa.out.grown hgb HBa.out.size (fun j hj => by have := own_geC HUa.out j hj; omega)); have h2a := H2b.out.of_heap (hgb.block _ H2b.out.lt (fun e => by have := own_geC HUa.out _ e.symm; omega)); have za := h2a.cell (i := 1) rfl; have zf := h2a.frozen 1; have H2a := Lib.hid h2a; clear hob hgb h2a)
     have hro := own_geC KUa.out
     have hsa := KGa.out.size
     have hsz7 : (w7.alloc (.cells #[.int .i64 k0, .int .i64 r0, .int .i64 s0, .int .i64 i0, .int .i64 l0, .int .i64 d0, .int .i64 p0, .int .u32 a0, .string t0] 34)).heap.size = w7.heap.size + 1 := by simp
     rw [hsz7] at hsa
     have hrow : ∀ k, some k = (Value.slice Av l.length cv).ownBlock → w1.heap.size ≤ k := fun k e => own_geC Ho7.out k e.symm
     have hma : wa.heap[w.heap.size + 1]? = w7.heap[w.heap.size + 1]? := (KGa.out.block _ (by omega) (fun e => by have := hrow _ e; omega)).trans (((Below.refl w7.heap.size w7).alloc (Nat.le_refl _) (.cells #[.int .i64 k0, .int .i64 r0, .int .i64 s0, .int .i64 i0, .int .i64 l0, .int .i64 d0, .int .i64 p0, .int .u32 a0, .string t0] 34)).block _ (by omega))
     have KMa := Lib.hid (own_map_heapE (own_map_heapE Hown7.out hma) (Below.heap_setCell wa ⟨w.heap.size + 1 + 1, 1, none⟩ (.slice Aa (l.length + 1) ca) (w.heap.size + 1) (by simp)))
     have KKa : Hid (∀ k, k < w1.heap.size → k ≠ w.heap.size + 1 → k ≠ w.heap.size + 1 + 1 → (wa.setCell ⟨w.heap.size + 1 + 1, 1, none⟩ (.slice Aa (l.length + 1) ca)).heap[k]? = w1.heap[k]?) := Lib.hid (fun k z1 z2 z3 => (Below.heap_setCell wa _ _ k (by simpa using z3)).trans ((KGa.out.block _ (by omega) (fun e => by have := hrow _ e; omega)).trans ((((Below.refl w7.heap.size w7).alloc (Nat.le_refl _) (.cells #[.int .i64 k0, .int .i64 r0, .int .i64 s0, .int .i64 i0, .int .i64 l0, .int .i64 d0, .int .i64 p0, .int .u32 a0, .string t0] 34)).block _ (by omega)).trans (HK7.out k z1 z2 z3))))
     have KO := Lib.hid (own_farE KUa.out (p := ⟨w.heap.size + 1 + 1, 1, none⟩) (fun j hj e => by have := hro j hj; dsimp only at e; omega) (.slice Aa (l.length + 1) ca))
     have K2 := Lib.hid (H2a.out.set 1 (.slice Aa (l.length + 1) ca))
     have KB := Lib.hid (KBa.out.setCell (p := ⟨w.heap.size + 1 + 1, 1, none⟩) (by simp; omega) (.slice Aa (l.length + 1) ca))
     go_roundw
     case rel =>
      refine ⟨i + 1, l ++ [(⟨k0, r0, s0, i0, l0, d0, p0, a0, t0⟩ : Frm)], Aa, ca, _, by omega, by go_num, by simp; omega, by exact Hr2.out, ?_, ?_, KMa.out, HMet7.out, KKa.out, KB.out, by simp; omega⟩
      ·rw [List.length_append, List.flatMap_append]
       exact KO.out
      ·rw [List.length_append]
       exact K2.out
     case measure => simp [intOf]; omega
   ·rw [if_neg ha] at Hr2
    have hb0 : (a0 == ar) = false := by simpa using ha
    go_wp2
    go_roundw
    case rel => exact ⟨i + 1, l, Av, cv, D, by omega, by go_num, by omega, Hr2.out, Hoy.out, H2y.out, HMy.out.mono (by omega), HMet.out, HKy.out, HBy.out, hsy⟩
    case measure => simp [intOf]; omega
  ·obtain rfl : i = xs.length := by omega
   have hiI : ¬ (xs.length : Int) < xs.length := by omega
   have hr := Hr.out
   rw [List.drop_length, List.foldl_nil] at hr
   have Hr2 := Lib.hid hr
   have HSo := Lib.hid (sortF_any wr w1.heap.size (.slice Av l.length cv) l (by omega) Ho.out)
   have z0 := H2.out.cell (i := 0) rfl
   have z1 := H2.out.cell (i := 1) rfl
   clear hr Hr
   go_upto_region 11 with (go_at_call 58; refine HSo.out.mono ?_; rintro e w5 ⟨rfl, l2, hp2, hs2, hf2, hb2⟩)
   have hb5 := hb2 wr (Below.refl _ _)
   have H15 := Lib.hid (H12.out.of_heap ((hb5.block _ (by omega)).trans (HK.out w.heap.size (by omega) (by omega) (by omega))))
   have h25 := H2.out.of_heap (hb5.block _ (by omega))
   have HB5 := Lib.hid (HBr.out.trans (hb5.mono (by omega)))
   have Hf2 := Lib.hid hf2
   have Hp2 := Lib.hid hp2
   have Hs2 := Lib.hid hs2
   have y0 := h25.cell (i := 0) rfl
   have y1 := h25.cell (i := 1) rfl
   clear z0 z1 hb5 h25 hb2 hf2 hp2 hs2
   have HT := Lib.hid H15.out.there
   have HG := Lib.hid (setCells_below HB5.out (Nat.le_refl _) [.int .u32 ar, .slice Av l.length cv] 0)
   have HFx := setCells_blk [.int .u32 ar, .slice Av l.length cv] [] [.int .u32 0, .slice none 0 0] _ H15.out rfl
   rw [show ([] : List Value).length = 0 from rfl, List.nil_append] at HFx
   have hf3 := (Hf2.out.setc H15.out 0 (.int .u32 ar)).setc (H15.out.set 0 (.int .u32 ar)) 1 (.slice Av l.length cv)
   obtain ⟨W1, hE⟩ : ∃ W1, w5.setCells w.heap.size 0 [.int .u32 ar, .slice Av l.length cv] = W1 := ⟨_, rfl⟩
   have HE := Lib.hid hE
   have HF2 : Hid (FrmsAt W1 (.slice Av l.length cv) l2) := Lib.hid (by rw [← hE]; exact hf3)
   rw [hE] at HG HFx
   have HMx := Lib.hid HFx
   clear hE HFx hf3
   go_wp2_with (refine coll_store rfl (.tmp 4) (.tmp 45) rfl _ _ rfl rfl HT.out rfl (by simp [Value.oneCell']) W1 HE.out ?_)
   have m0 := HMx.out.cell (i := 0) rfl
   have m1 := HMx.out.cell (i := 1) rfl
   exact bodyPost_ret (v := .agg #[.int .u32 ar, .slice Av l.length cv]) (by simp [results, Tryz.results26, go_sem, m0, m1]) rfl ⟨.slice Av l.length cv, l2, rfl, by have h := Hp2.out; rwa [← Hr2.out] at h, Hs2.out, HF2.out, HG.out⟩
end Go.Proofs.YtnlnmfkmbpihhaaGreatDoor
