/-
 'for x := range seq { body }', the loop's variable laid in memory of its own at each round, and what is known of it may lean on what the loop holds; where a function ranges over functions in a loop: its marks taken over at its end.
 WALK: scan.Pieces.
-/
import Derived.Test.YtnlnmfkmbpihhaaGreatDoorScC
import Derived.Maps.AppendAt
import Derived.Sort.CutIn
namespace Go.Proofs.YtnlnmfkmbpihhaaGreatDoor.rangeStr
open Go.RowKit Go.Proofs.YtnlnmfkmbpihhaaGreatDoor.rangeOwn

theorem wpIn_rangeFunc_box2 {α : Type} {P : Program} {g : Operand} {ps : Array Tmp} {assign body : Code} {Q : Exit → Act → World → Prop} {a : Act} {w : World}
  {gf : Nat} {lb : Array Value} (hg : a.eval g = .func (.func gf) #[] lb) (eg : ∀ args w, (callFunc gf args).run P w = .ok (.enter gf args) w)
  {Rd : α → Array Value → World → Prop} {old : Nat → Prop} {xs : List α} (hseq : IterStr P gf lb Rd old xs w)
  (hps : ∀ x args W, Rd x args W → args.size = ps.size) 
  (a₁ : Array Value → World → Act) (w₁ : Array Value → World → World) (hw₁ : ∀ args W, Below W.heap.size W (w₁ args W))
  (I : List α → World → Prop) (Bd : α → Array Value → Act → World → Prop) (hBd : ∀ pre x args W, w.heap.size + 2 ≤ W.heap.size → I pre W → Rd x args W → Bd x args (a₁ args W) (w₁ args W)) (hBdA : ∀ x args a A B, Bd x args a A → w.heap.size ≤ A.heap.size → rangeOwn.Aside No w.heap.size A B → Bd x args a B)
  (hI : ∀ s A B, I s A → w.heap.size ≤ A.heap.size → rangeOwn.Aside No w.heap.size A B → I s B) (h0 : I [] w)
  (hassign : ∀ (l : Nat) (x : α) (args : Array Value) (W : World) (K : Act → World → Prop), Rd x args W → K (a₁ args W) (w₁ args W) →
   assign.wpIn (Fence.wide.inRound l) 0 P (Exit.then K (fun _ _ _ => False)) { tmps := (ps.zip args).foldl (fun t (p, v) => t.setIfInBounds p v) a.tmps, defers := [] } W)
  (hbody : ∀ (l : Nat) (pre : List α) (x : α) (args : Array Value) (a' : Act) (W : World), w.heap.size + 2 ≤ W.heap.size → I pre W → Bd x args a' W → (pre ++ [x]) <+: xs →
   body.wpIn (Fence.wide.inRound l) 0 P (goesOn old I (pre ++ [x]) W) a' W)
  (hdone : ∀ (D : Nat) (W : World), w.heap.size ≤ D → I xs W → W.heap[D]? = some (.deferred (some [])) → Q .normal { a with defers := { target := .collected D, args := #[] } :: a.defers } W) :
  (Code.rangeFunc g ps assign body).wpIn Fence.wide 0 P Q a w := by
 refine wpIn_rangeFunc ?_
 intro fn _
 obtain ⟨rec, hrec⟩ : ∃ rec : LoopState → Option Code → Loop, rec = fun st pe => { state := st, pending := pe, fn, tmps := a.tmps, params := ps, assign, body, defers := w.heap.size } := ⟨_, rfl⟩
 obtain ⟨W1, hW1⟩ : ∃ W1, (w.alloc (.deferred (some []))).alloc (.loop (rec .ready none)) = W1 := ⟨_, rfl⟩
 have hs1 : W1.heap.size = w.heap.size + 2 := by rw [← hW1]; simp
 have hL1 : W1.heap[w.heap.size + 1]? = some (.loop (rec .ready none)) := by
  rw [← hW1]; have := World.alloc_heap_new (w.alloc (.deferred (some []))) (.loop (rec .ready none)); rwa [World.size_alloc] at this
 have hK1 : W1.heap[w.heap.size]? = some (.deferred (some [])) := by
  rw [← hW1]; exact (Below.heap_alloc _ _ _ (by simp)).trans (World.alloc_heap_new w _)
 have hb1 : Below w.heap.size w W1 := by rw [← hW1]; exact ((Below.refl _ w).alloc (Nat.le_refl _) _).alloc (by simp) _
 have hI1 : I [] W1 := hI _ _ _ h0 (Nat.le_refl _) (rangeOwn.Aside.of_below hb1 (Nat.le_refl _))
 refine ⟨w.heap.size + 1, [{ target := .collected w.heap.size, args := #[] }], W1, { target := .fn (.func gf) lb, args := #[.func (.yield (w.heap.size + 1)) #[] #[]] }, W1, gf,
  #[.func (.yield (w.heap.size + 1)) #[] #[]] ++ lb, W1, ?_, ?_, fun _ _ => trivial, ?_, (fun h => by cases h), ?_⟩
 ·rw [← hW1, hrec]; exact run_enterLoop_outer _ _ _ _ _
 ·simp only [resolve, hg]
  simp [go_sem]
 ·simp [invoke, go_sem, eg]
 ·refine (hseq (w.heap.size + 1)
   (fun pre W => w.heap.size + 2 ≤ W.heap.size ∧ I pre W ∧ W.heap[w.heap.size + 1]? = some (.loop (rec .ready none)) ∧ W.heap[w.heap.size]? = some (.deferred (some [])))
   W1 hb1 (fun s A B hs hsz hAB => ⟨Nat.le_trans hs.1 hAB.size, hI _ _ _ hs.2.1 (by omega) (hAB.mono (by omega)), (hAB.low _ (by omega) (fun h => h)).trans hs.2.2.1, (hAB.low _ (by omega) (fun h => h)).trans hs.2.2.2⟩)
   ?_ ⟨by omega, hI1, hL1, hK1⟩).mono ?_
  ·rintro pre x args W ⟨hsz, hi, hl, hk⟩ hrd hpre
   have hy := run_yield (P := P) (args := args) hl (by rw [hrec]; exact hps x args W hrd)
   rw [hrec] at hy
   obtain ⟨W0, hW0⟩ : ∃ W0, w₁ args W = W0 := ⟨_, rfl⟩
   have hb0 : Below W.heap.size W W0 := by rw [← hW0]; exact hw₁ args W
   have hl0 : W0.heap[w.heap.size + 1]? = some (.loop (rec .ready none)) := (hb0.block _ (by omega)).trans hl
   have hk0 : W0.heap[w.heap.size]? = some (.deferred (some [])) := (hb0.block _ (by omega)).trans hk
   have hz0 := hb0.size
   have hi0 : I pre W0 := hI _ _ _ hi (by omega) (rangeOwn.Aside.of_below hb0 (by omega))
   have hbd0 : Bd x args (a₁ args W) W0 := by rw [← hW0]; exact hBd pre x args W hsz hi hrd
   refine ⟨fn, _, assign, body, hy, roundIn_of_wpIn trivial (hassign _ x args W _ hrd ⟨_, by rw [hW0]; exact run_beginRound hl0 (by rw [hrec]), ?_⟩)⟩
   obtain ⟨W2, hW2⟩ : ∃ W2, W0.putObj (w.heap.size + 1) (.loop { rec .ready none with state := .busy }) = W2 := ⟨_, rfl⟩
   have hA2 : rangeOwn.Aside No w.heap.size W0 W2 := by rw [← hW2]; exact rangeOwn.Aside.putObj _ (by omega) hl0 rfl
   have hl2 : W2.heap[w.heap.size + 1]? = some (.loop { rec .ready none with state := .busy }) := by rw [← hW2]; exact World.putObj_heap_same (by omega)
   have hk2 : W2.heap[w.heap.size]? = some (.deferred (some [])) := by rw [← hW2]; exact (World.putObj_heap_other (by omega)).trans hk0
   have hs2 : W2.heap.size = W0.heap.size := by rw [← hW2]; simp
   rw [hW2]
   refine wpIn_mono (hbody _ pre x args _ W2 (by omega) (hI _ _ _ hi0 (by omega) hA2) (hBdA _ _ _ _ _ hbd0 (by omega) hA2) hpre) ?_
   rintro e a3 W3 hp
   cases e with
   | normal =>
    obtain ⟨hk3, hi3⟩ := hp
    have hl3 : W3.heap[w.heap.size + 1]? = some (.loop { rec .ready none with state := .busy }) := hk3.2 _ _ hl2 (.inl rfl)
    have hd3 : W3.heap[w.heap.size]? = some (.deferred (some [])) := hk3.2 _ _ hk2 (.inl rfl)
    have hs3 := hk3.1
    have hr := run_endRound (P := P) none hl3
    rw [hrec] at hr
    have hA4 : rangeOwn.Aside No w.heap.size W3 (W3.putObj (w.heap.size + 1) (.loop (rec .ready none))) := rangeOwn.Aside.putObj _ (by omega) hl3 rfl
    rw [hrec] at hA4
    refine ⟨_, _, hr, rfl, ⟨by simp; omega, hI _ _ _ hi3 (by omega) hA4, ?_, ?_⟩, by simp; omega, fun k o hko hkS => ?_⟩
    ·rw [hrec]; exact World.putObj_heap_same (by omega)
    ·exact (World.putObj_heap_other (by omega)).trans hd3
    ·by_cases hkne : k = w.heap.size + 1
     ·subst hkne
      rw [hl] at hko
      rw [← hko, hrec]
      exact World.putObj_heap_same (by omega)
     ·have hko0 : W0.heap[k]? = some o := (hb0.block k (Array.getElem?_eq_some_iff.1 hko).1).trans hko
      refine (World.putObj_heap_other hkne).trans (hk3.2 k o ?_ hkS)
      rw [← hW2]
      exact (World.putObj_heap_other hkne).trans hko0
   | _ => exact hp.elim
  ·rintro e W2 ⟨⟨v, rfl⟩, hsz, hi, hl, hk⟩
   refine ⟨none, _, by have := run_endLoop (P := P) hl (by rw [hrec]; simp); rw [hrec] at this; exact this, hdone _ _ (Nat.le_refl _) (hI _ _ _ hi (by omega) (rangeOwn.Aside.putObj _ (by omega) hl rfl)) ((World.putObj_heap_other (by omega)).trans hk)⟩

def mkD (D : Nat) : Deferred := { target := .collected D, args := #[] }
/-- Marks that no deferred call stands behind. -/
def MarksAt (B : Nat) (Ds : List Nat) (W : World) : Prop := Ds.Nodup ∧ ∀ D ∈ Ds, B < D ∧ W.heap[D]? = some (.deferred (some []))
theorem MarksAt.nil (B : Nat) (W : World) : MarksAt B [] W := ⟨List.nodup_nil, fun _ h => by cases h⟩
theorem MarksAt.lt {B : Nat} {Ds : List Nat} {W : World} (h : MarksAt B Ds W) : ∀ D ∈ Ds, D < W.heap.size := fun D hD => (Array.getElem?_eq_some_iff.1 (h.2 D hD).2).1
theorem MarksAt.moved {B n : Nat} {Ds : List Nat} {A W : World} (h : MarksAt B Ds A) (hn : ∀ D ∈ Ds, D < n) (ha : rangeOwn.Aside No n A W) : MarksAt B Ds W :=
 ⟨h.1, fun D hD => ⟨(h.2 D hD).1, (ha.low D (hn D hD) (fun h => h)).trans (h.2 D hD).2⟩⟩
theorem MarksAt.kept {B : Nat} {Ds : List Nat} {A W : World} (h : MarksAt B Ds A) (hk : ∀ (k : Nat) (o : Obj), A.heap[k]? = some o → o.isCells = false → W.heap[k]? = some o) : MarksAt B Ds W :=
 ⟨h.1, fun D hD => ⟨(h.2 D hD).1, hk D _ (h.2 D hD).2 rfl⟩⟩
theorem MarksAt.cons {B D : Nat} {Ds : List Nat} {W : World} (h : MarksAt B Ds W) (hD : ∀ x ∈ Ds, x < D) (hB : B < D) (hk : W.heap[D]? = some (.deferred (some []))) : MarksAt B (D :: Ds) W :=
 ⟨List.nodup_cons.2 ⟨fun hm => Nat.lt_irrefl _ (hD D hm), h.1⟩, fun x hx => by
  rcases List.mem_cons.1 hx with rfl | hx
  ·exact ⟨hB, hk⟩
  ·exact h.2 x hx⟩
theorem Aside_refl (n : Nat) (A : World) : rangeOwn.Aside No n A A := rangeOwn.Aside.of_below (Below.refl _ _) (Nat.zero_le _) |> fun h => ⟨h.os, h.tape, h.output, h.size, fun _ _ _ => rfl, h.cells⟩
/-- A function's end behind marks. -/
theorem leaves_marks {P : Program} {fn : Func} {tmps : Array Value} {R : Ending → World → Prop} {B : Nat} : ∀ (Ds : List Nat) (W : World), MarksAt B Ds W →
  (∀ W', rangeOwn.Aside No B W W' → LeavesInM Fence.wide 0 P fn tmps R [] .returning W') → LeavesInM Fence.wide 0 P fn tmps R (Ds.map mkD) .returning W
 | [], W, _, h => h W (Aside_refl _ _)
 | D :: Ds, W, hM, h => by
  have hD := hM.2 D List.mem_cons_self
  refine ⟨by simp, .inl ⟨D, _, rfl, run_takeDeferred hD.2, ?_⟩⟩
  have hA : rangeOwn.Aside No B W (W.putObj D (.deferred none)) := rangeOwn.Aside.putObj _ (by omega) hD.2 rfl
  refine leaves_marks Ds _ ⟨(List.nodup_cons.1 hM.1).2, fun x hx => ⟨(hM.2 x (List.mem_cons_of_mem _ hx)).1, ?_⟩⟩ fun W' hW' => h W' (hA.trans hW')
  exact (World.putObj_heap_other (fun e => (List.nodup_cons.1 hM.1).1 (by rw [← e]; exact hx))).trans (hM.2 x (List.mem_cons_of_mem _ hx)).2
end Go.Proofs.YtnlnmfkmbpihhaaGreatDoor.rangeStr

namespace Go.Proofs.YtnlnmfkmbpihhaaGreatDoor
open Go.RowKit Go.Shelf
attribute [local go_sem] Oper.semAt_some

/-- A sighting, given its piece's number. -/
def setP (k : Nat) (x : Sgt) : Sgt := { x with piece := (k : Int) }
/-- The sightings of pieces, numbered from k on. -/
def piecesL : Nat → List ByteArray → List Sgt
 | _, [] => []
 | k, s :: r => (scanL s 0).map (setP k) ++ piecesL (k + 1) r
theorem piecesL_app : ∀ (l r : List ByteArray) (k : Nat), piecesL k (l ++ r) = piecesL k l ++ piecesL (k + l.length) r
 | [], r, k => by simp [piecesL]
 | s :: l, r, k => by
  rw [List.cons_append, piecesL, piecesL, piecesL_app l r (k + 1), List.append_assoc, List.length_cons, Nat.add_right_comm, Nat.add_assoc]
theorem piecesL_snoc {ss : List ByteArray} {k : Nat} {s : ByteArray} (h : ss[k]? = some s) : piecesL 0 (ss.take (k + 1)) = piecesL 0 (ss.take k) ++ (scanL s 0).map (setP k) := by
 obtain ⟨h1, h2⟩ := List.getElem?_eq_some_iff.1 h
 rw [List.take_succ_eq_append_getElem h1, piecesL_app, h2, List.length_take, Nat.min_eq_left (by omega), Nat.zero_add]
 simp [piecesL]
theorem piecesL_len : ∀ (ss : List ByteArray) (k : Nat), (∀ s ∈ ss, s.size ≤ 900000) → (piecesL k ss).length ≤ 900000 * ss.length
 | [], _, _ => by simp [piecesL]
 | s :: r, k, h => by
  have h1 := piecesL_len r (k + 1) fun x hx => h x (List.mem_cons_of_mem _ hx)
  have h2 := scanL_len s _ 0 rfl
  have h3 := h s List.mem_cons_self
  rw [piecesL, List.length_append, List.length_map, List.length_cons]
  omega
/-- What scan.Pieces holds between two pieces. -/
def PcsO (w : World) (l : List Sgt) (W : World) : Prop := (∃ v, Boxed W w.heap.size 28 v ∧ W.ownsRow w.heap.size 38 14 v l.length (l.flatMap Sgt.cells)) ∧ Below w.heap.size w W
theorem PcsO.moved {w A B : World} {l : List Sgt} {n : Nat} (h : PcsO w l A) (ha : rangeOwn.Aside rangeStr.No n A B) (hn : w.heap.size ≤ n) : PcsO w l B := by
 obtain ⟨⟨v, h1, h2⟩, h4⟩ := h
 have hc : ∀ (k : Nat) (o : Obj), A.heap[k]? = some o → o.isCells = true → B.heap[k]? = some o := fun k o ho hoc => ha.cells k o (fun h => h) ho hoc
 exact ⟨⟨v, hc _ _ h1 rfl, own_cells h2 hc⟩, ⟨ha.os.trans h4.os, ha.tape.trans h4.tape, ha.output.trans h4.output, Nat.le_trans h4.size ha.size, fun k hk => (ha.low k (by omega) (fun h => h)).trans (h4.block k hk)⟩⟩
/-- .. and within one: n the number of blocks when its range began, gk the box of its number, gs the box of its text. -/
structure PcsI (w : World) (base : List Sgt) (k gk gs : Nat) (s : ByteArray) (Ds : List Nat) (n : Nat) (pre : List Sgt) (W : World) : Prop where
 out : PcsO w (base ++ pre.map (setP k)) W
 num : Boxed W gk 3 (.int .i64 (k : Int))
 str : Boxed W gs 9 (.string s)
 marks : rangeStr.MarksAt w.heap.size Ds W
theorem PcsI.moved {w A B : World} {base pre : List Sgt} {k gk gs n : Nat} {s : ByteArray} {Ds : List Nat} (h : PcsI w base k gk gs s Ds n pre A) (ha : rangeOwn.Aside rangeStr.No n A B) (hn : w.heap.size ≤ n) (hD : ∀ D ∈ Ds, D < n) : PcsI w base k gk gs s Ds n pre B :=
 ⟨h.out.moved ha hn, ha.cells _ _ (fun h => h) h.num rfl, ha.cells _ _ (fun h => h) h.str rfl, h.marks.moved hD ha⟩
/-- The frame at a round's beginning. -/
def pcsTmps (vl : Value) (w : World) (gk : Nat) (s : ByteArray) (g n k : Nat) (pt : Value) (gs : Nat) (x u17 u18 u19 u20 u21 u22 u23 u24 : Value) : Act :=
 { tmps := #[vl, undef, .slice none 0 0, .pointer (some ⟨w.heap.size, 0, none⟩), .pointer (some ⟨gk, 0, none⟩), .string s, .pointer (some ⟨g, 0, none⟩), vl, .int .i64 (n : Int), .int .i64 (k : Int), .bool true, .int .i64 (k : Int), pt, .string s, .string s, .func (.func 86) #[] #[.pointer (some ⟨gs, 0, none⟩)], x, u17, u18, u19, u20, u21, u22, u23, u24], defers := [] }
def PcsBd (vl : Value) (w : World) (gk : Nat) (s : ByteArray) (n0 n k : Nat) (pt : Value) (gs : Nat) (u17 u18 u19 u20 u21 u22 u23 u24 : Value) (x : Sgt) (_ : Array Value) (a : Act) (W : World) : Prop :=
 ∃ g, a = pcsTmps vl w gk s g n k pt gs x.v u17 u18 u19 u20 u21 u22 u23 u24 ∧ Blk W g 38 x.cells ∧ n0 ≤ g ∧ ∀ v, Boxed W w.heap.size 28 v → ∀ j, v.ownBlock = some j → j ≠ g
/-- The loop over the pieces. -/
def PcsL (w : World) (vl : Value) (ss : List ByteArray) (a : Act) (W : World) : Prop :=
 ∃ (k : Nat) (Ds : List Nat) (u4 u5 u6 u10 u11 u12 u13 u14 u15 u16 u17 u18 u19 u20 u21 u22 u23 u24 : Value), a = { tmps := #[vl, undef, .slice none 0 0, .pointer (some ⟨w.heap.size, 0, none⟩), u4, u5, u6, vl, .int .i64 (ss.length : Int), .int .i64 (k : Int), u10, u11, u12, u13, u14, u15, u16, u17, u18, u19, u20, u21, u22, u23, u24], defers := Ds.map rangeStr.mkD } ∧
  k ≤ ss.length ∧ PcsO w (piecesL 0 (ss.take k)) W ∧ rangeStr.MarksAt w.heap.size Ds W
theorem own_blk_ne {w : World} {B n size g : Nat} {t : TypeId} {v : Value} {xs : List Value} (h : w.ownsRow B t size v n xs) (hg : w.heap.size ≤ g) : ∀ j, v.ownBlock = some j → j ≠ g := fun j hj => by have := (h.lt j hj).2; omega
theorem Boxed.inj {W : World} {B : Nat} {t : TypeId} {u v : Value} (h : Boxed W B t u) (k : Boxed W B t v) : u = v := by
 have h2 := (show W.heap[B]? = _ from h).symm.trans k
 simpa using h2
theorem own_far {W : World} {B n size : Nat} {t : TypeId} {v : Value} {xs : List Value} (h : W.ownsRow B t size v n xs) {p : Addr} (hne : ∀ j, v.ownBlock = some j → j ≠ p.block) (u : Value) : (W.setCell p u).ownsRow B t size v n xs :=
 ⟨h.1, h.2.imp id fun ⟨g, cap, cur, e, hb, hg, r⟩ => ⟨g, cap, cur, e, hb, (Below.heap_setCell _ _ _ _ (by subst e; exact hne g rfl)).trans hg, r⟩⟩

set_option maxRecDepth 100000 in
set_option maxHeartbeats 16000000 in
theorem scpieces_any (w : World) (vl : Value) (ss : List ByteArray) (hv : StrvAt w vl ss) (hl : ss.length ≤ 1000000) (hs : ∀ s ∈ ss, s.size ≤ 900000) :
  Calls Tryz.prog 19 #[vl] w fun e w' => ∃ v, e = .returned v ∧ SgtsAt w' v (piecesL 0 ss) ∧ Below w.heap.size w w' := by
 have Hv := Lib.hid hv
 have Hs := Lib.hid hs
 obtain ⟨A, cv, rfl, hv1⟩ := hv
 clear hv1 hs
 have hbx0 := Boxed.new w 28 (.slice none 0 0)
 have hO0 : Hid (PcsO w (piecesL 0 (ss.take 0)) (w.alloc (.cells #[.slice none 0 0] 28))) := Lib.hid ⟨⟨_, hbx0, World.ownsRow_nil _ _ _ _⟩, (Below.refl _ _).alloc (Nat.le_refl _) _⟩
 clear hbx0
 refine (callsIn_wide (n := 0)).1 ?_
 refine callsIn_of_wp_marks Tryz.func19 rfl trivial ?_ rfl
 simp only [Tryz.ntmps19, List.size_toArray, List.length_cons, List.length_nil, Nat.reduceAdd, Nat.reduceSub, Array.replicate_succ, Array.replicate_zero, List.push_toArray, List.append_toArray, List.nil_append, List.cons_append]
 gi_wp2
 refine wpIn_loop (PcsL w (.slice A ss.length cv) ss) (fun a _ => ss.length - (intOf (a.tmps.getD 9 undef)).toNat) ⟨0, [], _, _, _, _, _, _, _, _, _, _, _, _, _, _, _, _, _, _, rfl, by omega, hO0.out, rangeStr.MarksAt.nil _ _⟩ ?_
 rintro _ W ⟨k, Ds, u4, u5, u6, u10, u11, u12, u13, u14, u15, u16, u17, u18, u19, u20, u21, u22, u23, u24, rfl, hk, hO, hM⟩
 clear hO0
 have HO := Lib.hid hO
 have HM := Lib.hid hM
 clear hO hM
 by_cases h : k < ss.length
 ·have hkI : (k : Int) < ss.length := by omega
  obtain ⟨s, hf⟩ : ∃ s, ss[k]? = some s := ⟨_, List.getElem?_eq_getElem h⟩
  have hsz := Hs.out s (List.mem_of_getElem? hf)
  obtain ⟨_, _, e9, h4⟩ := Hv.out.below HO.out.2
  cases e9
  obtain ⟨bb, o, rfl, hc⟩ := h4 k s hf
  have Hf := Lib.hid hf
  have hpk : (piecesL 0 (ss.take k)).length ≤ 900000 * k := by
   have h1 := piecesL_len (ss.take k) 0 fun x hx => Hs.out x (List.mem_of_mem_take hx)
   rw [List.length_take, Nat.min_eq_left hk] at h1
   exact h1
  obtain ⟨base, hbase⟩ : ∃ base, piecesL 0 (ss.take k) = base := ⟨_, rfl⟩
  rw [hbase] at HO hpk
  have Hbase := Lib.hid hbase
  have HsM := Lib.hid Hs.out
  clear h4 hf hbase Hs
  gi_wp2_with (refine ⟨trivial, rfl, ?_⟩; gi_at_call 44; refine (callsIn_wide.2 (scsights_any _ _)).mono ?_; rintro e w' ⟨rfl, rfl⟩)
  clear hc
  have hBW := HO.out.2.size
  obtain ⟨vo, hvo, hwo⟩ := HO.out.1
  have hvlt := hvo.lt
  obtain ⟨W0, hW0⟩ : ∃ W0, (W.alloc (.cells #[.int .i64 (k : Int)] 3)).alloc (.cells #[.string s] 9) = W0 := ⟨_, rfl⟩
  have hsz0 : W0.heap.size = W.heap.size + 1 + 1 := by rw [← hW0]; simp
  have hbn : Below W.heap.size W W0 := by rw [← hW0]; exact (((Below.refl _ _).alloc (Nat.le_refl _) _).alloc (by simp) _)
  have hnum : Boxed W0 W.heap.size 3 (.int .i64 (k : Int)) := by rw [← hW0]; exact (Boxed.new W 3 _).alloc _
  have hbx : Boxed W0 (W.heap.size + 1) 9 (.string s) := by
   rw [← hW0]
   have := Boxed.new (W.alloc (.cells #[.int .i64 (k : Int)] 3)) 9 (.string s)
   simpa using this
  have hA0 : rangeOwn.Aside rangeStr.No W.heap.size W W0 := rangeOwn.Aside.of_below hbn (Nat.le_refl _)
  have hDlt : ∀ D ∈ Ds, D < W.heap.size := fun D hD => HM.out.lt D hD
  have hI0 : PcsI w base k W.heap.size (W.heap.size + 1) s Ds W0.heap.size [] W0 := ⟨by simpa using HO.out.moved hA0 hBW, hnum, hbx, HM.out.moved hDlt hA0⟩
  have hIt := sights_all s (W.heap.size + 1) W0 (by omega) hbx
  have hnlt : w.heap.size < W0.heap.size := by omega
  have hslen : (scanL s 0).length ≤ 900000 := by have := scanL_len s _ 0 rfl; omega
  have hDl0 : ∀ D ∈ Ds, D < W0.heap.size := fun D hD => by have := hDlt D hD; omega
  rw [hW0]
  clear hW0 hbx hnum hbn hA0 hvo hwo HO HM
  refine rangeStr.wpIn_rangeFunc_box2 (gf := 86) (lb := #[.pointer (some ⟨W.heap.size + 1, 0, none⟩)]) rfl (enters_of Tryz.func86 (by kernel_rfl) rfl) hIt
   (fun x args W hr => by rw [show args = #[x.v] from hr]; rfl)
   (fun args V => pcsTmps (.slice (some ⟨bb, o, none⟩) ss.length cv) w W.heap.size s V.heap.size ss.length k (.pointer (some ⟨bb, o + k, none⟩)) (W.heap.size + 1) (args.getD 0 undef) u17 u18 u19 u20 u21 u22 u23 u24) (fun args V => V.alloc (.cells (aggOf (args.getD 0 undef)) 38)) (fun args V => (Below.refl _ _).alloc (Nat.le_refl _) _)
   (PcsI w base k W.heap.size (W.heap.size + 1) s Ds W0.heap.size)
   (PcsBd (.slice (some ⟨bb, o, none⟩) ss.length cv) w W.heap.size s W0.heap.size ss.length k (.pointer (some ⟨bb, o + k, none⟩)) (W.heap.size + 1) u17 u18 u19 u20 u21 u22 u23 u24)
   (fun pre x args V hsz hI hr => by
    obtain ⟨v, hv, hown⟩ := hI.out.1
    rw [show args = #[x.v] from hr]
    exact ⟨V.heap.size, rfl, Blk.new V 38 x.cells, by omega, fun v' hv' => by obtain rfl := Boxed.inj (hv.alloc _) hv'; exact own_blk_ne hown (Nat.le_refl _)⟩)
   (fun x args a A B hbd _ ha => by
    obtain ⟨g, h1, h2, h3, h4⟩ := hbd
    exact ⟨g, h1, ha.cells _ _ (fun h => h) h2 rfl, h3, fun v hv => h4 v ((ha.low w.heap.size hnlt (fun h => h)).symm.trans hv)⟩)
   (fun q X Y hq _ ha => hq.moved ha (by omega) hDl0) hI0 ?assign ?body ?done
  case assign =>
   intro l x args V K hr hK
   obtain rfl : args = #[x.v] := hr
   obtain ⟨pc, at_, ⟨k0, r, q, c, l1, d, p, a, t⟩, ⟨x, y, z⟩⟩ := x
   simp only [Sgt.v, pcsTmps, aggOf, Array.getD, List.size_toArray, List.length_cons, List.length_nil, Nat.zero_add, Nat.lt_add_one, dite_true, List.getElem_toArray, List.getElem_cons_zero, Array.getInternal_eq_getElem] at hK ⊢
   gi_wp2
   exact hK
  case body =>
   intro l pre x args a' V hsz hI hbd hpre
   obtain ⟨g, rfl, hblk, hg0, hgv⟩ := hbd
   obtain ⟨⟨⟨v, hv, hown⟩, hbel⟩, hnum, hstr, hmk⟩ := hI
   have hncell := hnum.cell
   have hgfr := hblk.frozen 0
   have hvg := hgv v hv
   have hgB : w.heap.size ≠ g := by omega
   have hgk : W.heap.size ≠ g := by omega
   have hgs : W.heap.size + 1 ≠ g := by omega
   obtain ⟨pc, at_, ⟨k0, r, q, c, l1, d, p, a, t⟩, ⟨x, y, z⟩⟩ := x
   have hg0c := hblk.cell (i := 0) rfl
   have hblk2 := hblk.set 0 (.int .i64 (k : Int))
   change Blk _ _ _ [.int .i64 (k : Int), .int .i64 (at_ : Int), .int .i64 k0, .int .i64 r, .int .i64 q, .int .i64 c, .int .i64 l1, .int .i64 d, .int .i64 p, .int .u32 a, .string t, .int .i64 x, .int .i64 y, .int .i64 z] at hblk2
   have hv2 : Boxed (V.setCell ⟨g, 0, none⟩ (.int .i64 (k : Int))) w.heap.size 28 v := hv.other hgB _
   have hnum2 : Boxed (V.setCell ⟨g, 0, none⟩ (.int .i64 (k : Int))) W.heap.size 3 (.int .i64 (k : Int)) := hnum.other hgk _
   have hstr2 : Boxed (V.setCell ⟨g, 0, none⟩ (.int .i64 (k : Int))) (W.heap.size + 1) 9 (.string s) := hstr.other hgs _
   have hown2 := own_far (p := ⟨g, 0, none⟩) hown hvg (.int .i64 (k : Int))
   have hbel2 := hbel.setCell (p := ⟨g, 0, none⟩) (show w.heap.size ≤ g by omega) (.int .i64 (k : Int))
   have hoth : ∀ (j : Nat) (o : Obj), V.heap[j]? = some o → o.isCells = false → (V.setCell ⟨g, 0, none⟩ (.int .i64 (k : Int))).heap[j]? = some o := fun j o hj ho => by
    refine (Below.heap_setCell _ _ _ _ (show j ≠ g from fun e => ?_)).trans hj
    subst e
    rw [show V.heap[j]? = _ from hblk] at hj
    cases hj
    cases ho
   have hmk2 := hmk.kept hoth
   have HstrV := Lib.hid hstr
   have hszV : (V.setCell ⟨g, 0, none⟩ (.int .i64 (k : Int))).heap.size = V.heap.size := by simp
   obtain ⟨X, hX⟩ : ∃ X : Sgt, X = ⟨pc, at_, ⟨k0, r, q, c, l1, d, p, a, t⟩, ⟨x, y, z⟩⟩ := ⟨_, rfl⟩
   rw [← hX]
   unfold pcsTmps Sgt.v
   gi_upto_region 8 with fail
   have Hoth := Lib.hid hoth
   clear hncell hgfr hg0c hblk hv hnum hstr hown hbel hmk hgv hvg hoth
   generalize V.setCell ⟨g, 0, none⟩ (.int .i64 (k : Int)) = V2 at *
   have hcell := hv2.cell
   have hfr := hv2.frozen
   have e0 := hblk2.cell (i := 0) rfl
   have e1 := hblk2.cell (i := 1) rfl
   have e2 := hblk2.cell (i := 2) rfl
   have e3 := hblk2.cell (i := 3) rfl
   have e4 := hblk2.cell (i := 4) rfl
   have e5 := hblk2.cell (i := 5) rfl
   have e6 := hblk2.cell (i := 6) rfl
   have e7 := hblk2.cell (i := 7) rfl
   have e8 := hblk2.cell (i := 8) rfl
   have e9 := hblk2.cell (i := 9) rfl
   have e10 := hblk2.cell (i := 10) rfl
   have e11 := hblk2.cell (i := 11) rfl
   have e12 := hblk2.cell (i := 12) rfl
   have e13 := hblk2.cell (i := 13) rfl
   have hXc : [.int .i64 (k : Int), .int .i64 (at_ : Int), .int .i64 k0, .int .i64 r, .int .i64 q, .int .i64 c, .int .i64 l1, .int .i64 d, .int .i64 p, .int .u32 a, .string t, .int .i64 x, .int .i64 y, .int .i64 z] = (setP k X).cells := by rw [hX]; rfl
   have hpl : pre.length + 1 ≤ 900000 := by
    have h1 := hpre.length_le
    rw [List.length_append, List.length_singleton] at h1
    omega
   obtain ⟨nb, hnb⟩ : ∃ nb, (base ++ pre.map (setP k)).length = nb := ⟨_, rfl⟩
   have hnb2 : nb + 1 ≤ 900000 * k + 900001 := by rw [← hnb, List.length_append, List.length_map]; omega
   have hpx : (base ++ (pre ++ [X]).map (setP k)).flatMap Sgt.cells = (base ++ pre.map (setP k)).flatMap Sgt.cells ++ [.int .i64 (k : Int), .int .i64 (at_ : Int), .int .i64 k0, .int .i64 r, .int .i64 q, .int .i64 c, .int .i64 l1, .int .i64 d, .int .i64 p, .int .u32 a, .string t, .int .i64 x, .int .i64 y, .int .i64 z] := by rw [List.map_append, ← List.append_assoc, List.flatMap_append, hXc]; simp
   have hpl2 : (base ++ (pre ++ [X]).map (setP k)).length = nb + 1 := by rw [List.map_append, ← List.append_assoc, List.length_append, hnb]; rfl
   rw [hnb] at hown2
   obtain ⟨i0, hi, hz0, hz1, hz2⟩ := info_parts Tryz.infoSight
   have hnew := Blk.new V2 38 [.int .i64 (k : Int), .int .i64 (at_ : Int), .int .i64 k0, .int .i64 r, .int .i64 q, .int .i64 c, .int .i64 l1, .int .i64 d, .int .i64 p, .int .u32 a, .string t, .int .i64 x, .int .i64 y, .int .i64 z]
   change Blk (V2.alloc (.cells #[.int .i64 (k : Int), .int .i64 (at_ : Int), .int .i64 k0, .int .i64 r, .int .i64 q, .int .i64 c, .int .i64 l1, .int .i64 d, .int .i64 p, .int .u32 a, .string t, .int .i64 x, .int .i64 y, .int .i64 z] 38)) _ _ _ at hnew
   have hnews : ∀ (j : Nat) (u : Value), ([.int .i64 (k : Int), .int .i64 (at_ : Int), .int .i64 k0, .int .i64 r, .int .i64 q, .int .i64 c, .int .i64 l1, .int .i64 d, .int .i64 p, .int .u32 a, .string t, .int .i64 x, .int .i64 y, .int .i64 z] : List Value)[j]? = some u → (V2.alloc (.cells #[.int .i64 (k : Int), .int .i64 (at_ : Int), .int .i64 k0, .int .i64 r, .int .i64 q, .int .i64 c, .int .i64 l1, .int .i64 d, .int .i64 p, .int .u32 a, .string t, .int .i64 x, .int .i64 y, .int .i64 z] 38)).cell? ((⟨V2.heap.size, 0, none⟩ : Addr).add j) = some u := fun j u hj => by
    rw [Addr.add_lit, Nat.zero_add]
    exact hnew.cell hj
   have hone : ∀ u ∈ ([.int .i64 (k : Int), .int .i64 (at_ : Int), .int .i64 k0, .int .i64 r, .int .i64 q, .int .i64 c, .int .i64 l1, .int .i64 d, .int .i64 p, .int .u32 a, .string t, .int .i64 x, .int .i64 y, .int .i64 z] : List Value), u.oneCell' = true := by simp [Value.oneCell']
   have Hnews := Lib.hid hnews
   have Hone := Lib.hid hone
   have Hown := Lib.hid (hown2.alloc (.cells #[.int .i64 (k : Int), .int .i64 (at_ : Int), .int .i64 k0, .int .i64 r, .int .i64 q, .int .i64 c, .int .i64 l1, .int .i64 d, .int .i64 p, .int .u32 a, .string t, .int .i64 x, .int .i64 y, .int .i64 z] 38))
   have Hown0 := Lib.hid hown2
   have Hv := Lib.hid hv2
   have Hnum := Lib.hid hnum2
   have Hstr := Lib.hid hstr2
   have Hbel := Lib.hid hbel2
   have Hmk := Lib.hid hmk2
   have Hpx := Lib.hid hpx
   have Hpl2 := Lib.hid hpl2
   have Hinfo : Hid (Tryz.prog.info? 38 = some i0 ∧ i0.zero = some (.agg zero14.toArray) ∧ i0.size = 14 ∧ i0.bytes = 120) := Lib.hid ⟨hi, hz0, hz1, hz2⟩
   have hWz := hbel2.size
   have Hgne : Hid (w.heap.size ≠ W.heap.size ∧ w.heap.size ≠ W.heap.size + 1) := Lib.hid ⟨by omega, by omega⟩
   have HszV := Lib.hid hszV
   clear hszV hX hXc hpre hpx hpl2 hi hz0 hz1 hz2 hnew hnews hone hown2 hv2 hnum2 hstr2 hbel2 hmk2 hIt hI0 hblk2 hnb
   gi_wp2_with (gi_at_builtin; refine wpListIn_append_own _ rfl _ _ 28 rfl w.heap.size 38 i0 (.agg zero14.toArray) 14 120 Tryz.underlying28 Hinfo.out.1 Hinfo.out.2.1 Hinfo.out.2.2.1 Hinfo.out.2.2.2 rfl (by omega) v nb _ rfl Hown.out ⟨V2.heap.size, 0, none⟩ 1 1 _ rfl rfl Hnews.out Hone.out (by unfold maxLen; omega) (by omega) (by simp; omega) ?_; intro v' w1 hown1 hgr1 _; obtain ⟨g', cap', rfl⟩ := ownsRow_succ hown1; obtain ⟨hv1, hv2, hr2, hk2, hb2⟩ := Boxed.appended Hv.out (by decide) Hown0.out hWz (Nat.le_refl _) hown1 hgr1; have hc1 := hv1.cell; have hf1 := hv1.frozen; have hn1 : Boxed w1 W.heap.size 3 (.int .i64 (k : Int)) := (Hnum.out.alloc _).kept hgr1 (Hnum.out.not_row (by decide) Hown0.out); have hs1 : Boxed w1 (W.heap.size + 1) 9 (.string s) := (Hstr.out.alloc _).kept hgr1 (Hstr.out.not_row (by decide) Hown0.out); have Hv2 := Lib.hid hv2; have Hr2 := Lib.hid hr2; have Hk2 := Lib.hid hk2; have Hb2 := Lib.hid hb2; have Hn1 := Lib.hid hn1; have Hs1 := Lib.hid hs1; clear hown1 hgr1 hv1 hv2 hr2 hk2 hb2 hs1 hn1)
   refine ⟨⟨by have := Hk2.out.size; have := HszV.out; omega, fun k0 o0 hko hor => ?_⟩, ⟨⟨_, Hv2.out, by rw [Hpl2.out, Hpx.out]; exact Hr2.out⟩, Hbel.out.trans Hb2.out⟩, Hn1.out.other Hgne.out.1.symm _, Hs1.out.other Hgne.out.2.symm _, Hmk.out.kept fun j o hj ho => Hk2.out.same j o hj ho⟩
   rcases hor with h | rfl
   ·exact Hk2.out.same k0 o0 (Hoth.out _ _ hko h) h
   ·rw [show V.heap[W.heap.size + 1]? = _ from HstrV.out] at hko
    cases hko
    exact Hs1.out.other Hgne.out.2.symm _
  case done =>
   intro D V hD hI hk2
   have Hk2 := Lib.hid hk2
   have HI := Lib.hid hI
   clear hI0 hIt hk2 hI
   gi_wp2
   refine ⟨⟨k + 1, D :: Ds, _, _, _, _, _, _, _, _, _, _, _, _, _, _, _, _, _, _, rfl, by omega, ?_, ?_⟩, ?_⟩
   ·rw [piecesL_snoc Hf.out, Hbase.out]
    exact HI.out.out
   ·exact HI.out.marks.cons (fun x hx => by have := hDl0 x hx; omega) (by omega) Hk2.out
   ·simp [intOf]
    omega
 ·obtain rfl : k = ss.length := by omega
  obtain ⟨⟨v, hv, hown⟩, hbel⟩ := HO.out
  have hcell := hv.cell
  rw [List.take_length] at hown
  have Hown := Lib.hid hown
  have Hbel := Lib.hid hbel
  have hfin : ∃ A n c, v = .slice A n c := by
   rcases hown.2 with ⟨rfl, _⟩ | ⟨g, cap, _, rfl, _⟩
   ·exact ⟨_, _, _, rfl⟩
   ·exact ⟨_, _, _, rfl⟩
  obtain ⟨A2, n2, c2, rfl⟩ := hfin
  clear hv hown hbel HO
  gi_wp2
  refine rangeStr.leaves_marks Ds W HM.out fun W' hA => ⟨_, results_tmp rfl _ _ _, _, rfl, SgtsAt.of_own (own_cells Hown.out fun j o ho hc => hA.cells j o (fun h => h) ho hc), ?_⟩
  exact ⟨hA.os.trans Hbel.out.os, hA.tape.trans Hbel.out.tape, hA.output.trans Hbel.out.output, Nat.le_trans Hbel.out.size hA.size, fun j hj => (hA.low j hj (fun h => h)).trans (Hbel.out.block j hj)⟩
end Go.Proofs.YtnlnmfkmbpihhaaGreatDoor
