/-
  WALK: scan.Piece.
-/
import Derived.Test.YtjennpcadjdnlaaGreatDoorScE
import Derived.Test.YtjennpcadjdnlaaGreatDoorRangeBox
import Derived.RangeFuncBox
import Derived.OwnWalkIn
namespace Go.Proofs.YtjennpcadjdnlaaGreatDoor
open Go.RowKit Go.Shelf
attribute [local go_sem] Oper.semAt_some

theorem Tryz.infoSight : (Tryz.prog.info? 53).map (fun i => (i.zero, i.size, i.bytes)) = some (some (.agg zero14.toArray), 14, 120) := by kernel_rfl
/-- A slice value that owns these sightings. -/
def SgtsAt (W : World) (v : Value) (xs : List Sgt) : Prop := W.ownsRow 0 53 14 v xs.length (xs.flatMap Sgt.cells)
/-- What the loop holds: the list so far, in a box; the string's box; nothing below them turned. -/
structure PieceI (w : World) (s : ByteArray) (pre : List Sgt) (W : World) : Prop where
  out : ∃ v, Boxed W w.heap.size 46 v ∧ W.ownsRow w.heap.size 53 14 v pre.length (pre.flatMap Sgt.cells)
  str : Boxed W (w.heap.size + 1) 9 (.string s)
  below : Below w.heap.size w W
theorem own_cells {A B : World} {b n size : Nat} {t : TypeId} {v : Value} {xs : List Value} (h : A.ownsRow b t size v n xs) (hc : ∀ (k : Nat) (o : Obj), A.heap[k]? = some o → o.isCells = true → B.heap[k]? = some o) : B.ownsRow b t size v n xs := by
  refine ⟨h.1, ?_⟩
  rcases h.2 with hn | ⟨g, cap, cur, hv, hbg, hg, rest⟩
  · exact .inl hn
  · exact .inr ⟨g, cap, cur, hv, hbg, hc _ _ hg rfl, rest⟩
theorem PieceI.moved {w A B : World} {s : ByteArray} {pre : List Sgt} {n : Nat} (h : PieceI w s pre A) (ha : rangeOwn.Aside rangeStr.No n A B) (hn : w.heap.size ≤ n) : PieceI w s pre B := by
  obtain ⟨⟨v, h1, h2⟩, h3, h4⟩ := h
  have hc : ∀ (k : Nat) (o : Obj), A.heap[k]? = some o → o.isCells = true → B.heap[k]? = some o := fun k o ho hoc => ha.cells k o (fun h => h) ho hoc
  exact ⟨⟨v, hc _ _ h1 rfl, own_cells h2 hc⟩, hc _ _ h3 rfl, ⟨ha.os.trans h4.os, ha.tape.trans h4.tape, ha.output.trans h4.output, Nat.le_trans h4.size ha.size, fun k hk => (ha.low k (by omega) (fun h => h)).trans (h4.block k hk)⟩⟩
/-- The frame at a round's beginning. -/
def pieceTmps (w : World) (s : ByteArray) (g : Nat) (x : Value) : Act :=
  { tmps := #[.string s, undef, .slice none 0 0, .pointer (some ⟨w.heap.size, 0, none⟩), .pointer (some ⟨g, 0, none⟩), .string s, .func (.func 123) #[] #[.pointer (some ⟨w.heap.size + 1, 0, none⟩)], x, undef, undef, undef, undef, undef], defers := [] }
def PieceBd (w : World) (s : ByteArray) (x : Sgt) (_ : Array Value) (a : Act) (W : World) : Prop := ∃ g, a = pieceTmps w s g x.v ∧ Blk W g 53 x.cells
def aggOf : Value → Array Value
  | .agg cs => cs
  | _ => #[]

set_option maxRecDepth 100000 in
set_option maxHeartbeats 8000000 in
theorem scpiece_any (w : World) (s : ByteArray) (hs : s.size ≤ 1000000) :
    Calls Tryz.prog 21 #[.string s] w fun e w' => ∃ v, e = .returned v ∧ SgtsAt w' v (scanL s 0) ∧ Below w.heap.size w w' := by
  have Hs := Lib.hid hs
  refine (callsIn_wide (n := 0)).1 ?_
  refine callsIn_of_wp_marks Tryz.func21 rfl trivial ?_ rfl
  simp only [Tryz.ntmps21, List.size_toArray, List.length_cons, List.length_nil, Nat.reduceAdd, Nat.reduceSub, Array.replicate_succ, Array.replicate_zero, List.push_toArray, List.append_toArray, List.nil_append, List.cons_append]
  gi_wp2_with (refine ⟨trivial, rfl, ?_⟩; gi_at_call 59; refine (callsIn_wide.2 (scsights_any _ _)).mono ?_; rintro e w' ⟨rfl, rfl⟩)
  obtain ⟨W0, hW0⟩ : ∃ W0, (w.alloc (.cells #[.slice none 0 0] 46)).alloc (.cells #[.string s] 9) = W0 := ⟨_, rfl⟩
  have hsz0 : W0.heap.size = w.heap.size + 1 + 1 := by rw [← hW0]; simp
  have hb0 : Below w.heap.size w W0 := by rw [← hW0]; exact (((Below.refl _ _).alloc (Nat.le_refl _) _).alloc (by simp) _)
  have hbx : Boxed W0 (w.heap.size + 1) 9 (.string s) := by
    rw [← hW0]
    have := Boxed.new (w.alloc (.cells #[.slice none 0 0] 46)) 9 (.string s)
    simpa using this
  have hbo : Boxed W0 w.heap.size 46 (.slice none 0 0) := by
    rw [← hW0]
    exact (Boxed.new w 46 (.slice none 0 0)).alloc _
  have hI0 : PieceI w s [] W0 := ⟨⟨_, hbo, World.ownsRow_nil _ _ _ _⟩, hbx, hb0⟩
  have hIt := sights_all s (w.heap.size + 1) W0 Hs.out hbx
  rw [hW0]
  clear hW0 hbx hbo
  refine rangeStr.wpIn_rangeFunc_box (gf := 123) (lb := #[.pointer (some ⟨w.heap.size + 1, 0, none⟩)]) rfl (enters_of Tryz.func123 (by kernel_rfl) rfl) hIt
    (fun x args W hr => by rw [show args = #[x.v] from hr]; rfl)
    (fun args W => pieceTmps w s W.heap.size (args.getD 0 undef)) (fun args W => W.alloc (.cells (aggOf (args.getD 0 undef)) 53)) (fun args W => (Below.refl _ _).alloc (Nat.le_refl _) _)
    (PieceBd w s) (fun x args W hr => ⟨W.heap.size, by rw [show args = #[x.v] from hr]; rfl, by rw [show args = #[x.v] from hr]; exact Blk.new W 53 x.cells⟩)
    (fun x args a A B hbd _ ha => by obtain ⟨g, h1, h2⟩ := hbd; exact ⟨g, h1, ha.cells _ _ (fun h => h) h2 rfl⟩)
    (PieceI w s) (fun q X Y hq _ ha => hq.moved ha (by omega)) hI0 ?assign ?body ?done
  case assign =>
    intro l x args W K hr hK
    obtain rfl : args = #[x.v] := hr
    obtain ⟨pc, at_, ⟨k, r, q, c, l1, d, p, a, t⟩, ⟨x, y, z⟩⟩ := x
    simp only [Sgt.v, pieceTmps, aggOf, Array.getD, List.size_toArray, List.length_cons, List.length_nil, Nat.zero_add, Nat.lt_add_one, dite_true, List.getElem_toArray, List.getElem_cons_zero, Array.getInternal_eq_getElem] at hK ⊢
    gi_wp2
    exact hK
  case body =>
    intro l pre x args a' W hsz hI hbd hpre
    obtain ⟨g, rfl, hblk⟩ := hbd
    obtain ⟨⟨v, hv, hown⟩, hstr, hbel⟩ := hI
    have hcell := hv.cell
    have hfr := hv.frozen
    obtain ⟨pc, at_, ⟨k, r, q, c, l1, d, p, a, t⟩, ⟨x, y, z⟩⟩ := x
    have e0 := hblk.cell (i := 0) rfl
    have e1 := hblk.cell (i := 1) rfl
    have e2 := hblk.cell (i := 2) rfl
    have e3 := hblk.cell (i := 3) rfl
    have e4 := hblk.cell (i := 4) rfl
    have e5 := hblk.cell (i := 5) rfl
    have e6 := hblk.cell (i := 6) rfl
    have e7 := hblk.cell (i := 7) rfl
    have e8 := hblk.cell (i := 8) rfl
    have e9 := hblk.cell (i := 9) rfl
    have e10 := hblk.cell (i := 10) rfl
    have e11 := hblk.cell (i := 11) rfl
    have e12 := hblk.cell (i := 12) rfl
    have e13 := hblk.cell (i := 13) rfl
    obtain ⟨X, hX⟩ : ∃ X : Sgt, X = ⟨pc, at_, ⟨k, r, q, c, l1, d, p, a, t⟩, ⟨x, y, z⟩⟩ := ⟨_, rfl⟩
    have hXc : [.int .i64 pc, .int .i64 (at_ : Int), .int .i64 k, .int .i64 r, .int .i64 q, .int .i64 c, .int .i64 l1, .int .i64 d, .int .i64 p, .int .u32 a, .string t, .int .i64 x, .int .i64 y, .int .i64 z] = X.cells := by rw [hX]; rfl
    have hpl : pre.length + 1 ≤ 1000000 := by
      have h1 := hpre.length_le
      have h2 := scanL_len s (s.size - 0) 0 rfl
      have := Hs.out
      rw [List.length_append, List.length_singleton] at h1
      omega
    have hpx : (pre ++ [X]).flatMap Sgt.cells = pre.flatMap Sgt.cells ++ [.int .i64 pc, .int .i64 (at_ : Int), .int .i64 k, .int .i64 r, .int .i64 q, .int .i64 c, .int .i64 l1, .int .i64 d, .int .i64 p, .int .u32 a, .string t, .int .i64 x, .int .i64 y, .int .i64 z] := by rw [List.flatMap_append, hXc]; simp
    have hpl2 : (pre ++ [X]).length = pre.length + 1 := by rw [List.length_append, List.length_singleton]
    rw [← hX]
    obtain ⟨i0, hi, hz0, hz1, hz2⟩ := info_parts Tryz.infoSight
    have hnew := Blk.new W 53 [.int .i64 pc, .int .i64 (at_ : Int), .int .i64 k, .int .i64 r, .int .i64 q, .int .i64 c, .int .i64 l1, .int .i64 d, .int .i64 p, .int .u32 a, .string t, .int .i64 x, .int .i64 y, .int .i64 z]
    change Blk (W.alloc (.cells #[.int .i64 pc, .int .i64 (at_ : Int), .int .i64 k, .int .i64 r, .int .i64 q, .int .i64 c, .int .i64 l1, .int .i64 d, .int .i64 p, .int .u32 a, .string t, .int .i64 x, .int .i64 y, .int .i64 z] 53)) _ _ _ at hnew
    have hnews : ∀ (j : Nat) (u : Value), [Value.int .i64 pc, Value.int .i64 (at_ : Int), Value.int .i64 k, Value.int .i64 r, Value.int .i64 q, Value.int .i64 c, Value.int .i64 l1, Value.int .i64 d, Value.int .i64 p, Value.int .u32 a, Value.string t, Value.int .i64 x, Value.int .i64 y, Value.int .i64 z][j]? = some u → (W.alloc (.cells #[.int .i64 pc, .int .i64 (at_ : Int), .int .i64 k, .int .i64 r, .int .i64 q, .int .i64 c, .int .i64 l1, .int .i64 d, .int .i64 p, .int .u32 a, .string t, .int .i64 x, .int .i64 y, .int .i64 z] 53)).cell? ((⟨W.heap.size, 0, none⟩ : Addr).add j) = some u := fun j u hj => by
      rw [Addr.add_lit, Nat.zero_add]
      exact hnew.cell hj
    have hone : ∀ u ∈ [Value.int .i64 pc, Value.int .i64 (at_ : Int), Value.int .i64 k, Value.int .i64 r, Value.int .i64 q, Value.int .i64 c, Value.int .i64 l1, Value.int .i64 d, Value.int .i64 p, Value.int .u32 a, Value.string t, Value.int .i64 x, Value.int .i64 y, Value.int .i64 z], u.oneCell' = true := by simp [Value.oneCell']
    have Hnews := Lib.hid hnews
    have Hone := Lib.hid hone
    have Hown := Lib.hid (hown.alloc (.cells #[.int .i64 pc, .int .i64 (at_ : Int), .int .i64 k, .int .i64 r, .int .i64 q, .int .i64 c, .int .i64 l1, .int .i64 d, .int .i64 p, .int .u32 a, .string t, .int .i64 x, .int .i64 y, .int .i64 z] 53))
    have Hown0 := Lib.hid hown
    have Hv := Lib.hid hv
    have Hstr := Lib.hid hstr
    have Hbel := Lib.hid hbel
    have Hpx := Lib.hid hpx
    have Hpl2 := Lib.hid hpl2
    have Hinfo : Hid (Tryz.prog.info? 53 = some i0 ∧ i0.zero = some (.agg zero14.toArray) ∧ i0.size = 14 ∧ i0.bytes = 120) := Lib.hid ⟨hi, hz0, hz1, hz2⟩
    have hWz := hbel.size
    clear hX hXc hpre hpx hpl2 hi hz0 hz1 hz2 hnew hnews hone hown hv hstr hbel hIt hb0 hI0 hblk
    unfold pieceTmps Sgt.v
    gi_wp2_with (gi_at_builtin; refine wpListIn_append_own _ rfl _ _ 46 rfl w.heap.size 53 i0 (.agg zero14.toArray) 14 120 Tryz.underlying46 Hinfo.out.1 Hinfo.out.2.1 Hinfo.out.2.2.1 Hinfo.out.2.2.2 rfl (by omega) v pre.length _ rfl Hown.out ⟨W.heap.size, 0, none⟩ 1 1 _ rfl rfl Hnews.out Hone.out (by unfold maxLen; omega) (by omega) (by simp; omega) ?_; intro v' w1 hown1 hgr1 _; obtain ⟨g', cap', rfl⟩ := ownsRow_succ hown1; obtain ⟨hv1, hv2, hr2, hk2, hb2⟩ := Boxed.appended Hv.out (by decide) Hown0.out hWz (Nat.le_refl _) hown1 hgr1; have hc1 := hv1.cell; have hf1 := hv1.frozen; have hs1 : Boxed w1 (w.heap.size + 1) 9 (.string s) := (Hstr.out.alloc _).kept hgr1 (Hstr.out.not_row (by decide) Hown0.out); have Hv2 := Lib.hid hv2; have Hr2 := Lib.hid hr2; have Hk2 := Lib.hid hk2; have Hb2 := Lib.hid hb2; have Hs1 := Lib.hid hs1; clear hown1 hgr1 hv1 hv2 hr2 hk2 hb2 hs1)
    refine ⟨⟨Hk2.out.size, fun k0 o0 hko hor => ?_⟩, ⟨_, Hv2.out, by rw [Hpl2.out, Hpx.out]; exact Hr2.out⟩, (Below.heap_setCell _ _ _ _ (by simp)).trans Hs1.out, Hbel.out.trans Hb2.out⟩
    rcases hor with h | rfl
    · exact Hk2.out.same k0 o0 hko h
    · rw [show W.heap[w.heap.size + 1]? = _ from Hstr.out] at hko
      cases hko
      exact (Below.heap_setCell _ _ _ _ (by simp)).trans Hs1.out
  case done =>
    intro D W hD hI hk
    obtain ⟨⟨v, hv, hown⟩, hstr, hbel⟩ := hI
    have hcell := hv.cell
    have Hown := Lib.hid hown
    have Hbel := Lib.hid hbel
    have Hk := Lib.hid hk
    have hfin : ∃ A n c, v = .slice A n c := by
      rcases hown.2 with ⟨rfl, _⟩ | ⟨g, cap, _, rfl, _⟩
      · exact ⟨_, _, _, rfl⟩
      · exact ⟨_, _, _, rfl⟩
    obtain ⟨A, n, c, rfl⟩ := hfin
    clear hv hown hstr hbel hk hI0 hIt hb0
    gi_wp2
    refine ⟨by simp, .inl ⟨_, _, rfl, run_takeDeferred Hk.out, _, results_tmp rfl _ _ _, ?_⟩⟩
    refine ⟨_, rfl, ?_, ?_⟩
    · have h1 := ownsRow_putObj Hown.out (.deferred none) Hk.out rfl
      exact ⟨h1.1, h1.2.imp id fun ⟨g, cap, cur, e, _, r⟩ => ⟨g, cap, cur, e, Nat.zero_le _, r⟩⟩
    · exact ⟨Hbel.out.os, Hbel.out.tape, Hbel.out.output, Nat.le_trans Hbel.out.size (by simp), fun k hk2 => (World.putObj_heap_other (by omega)).trans (Hbel.out.block k hk2)⟩

end Go.Proofs.YtjennpcadjdnlaaGreatDoor
