/-
 WALKS: collect.Layout, steleref44.Layout.
-/
import Derived.Test.YtnlnmfkmbpihhaaGreatDoorCoB
import Derived.DeepKeys4
import Derived.Maps.OwnOps
import Derived.Maps.OwnSet
import Derived.Maps.Views
import Derived.Carry
namespace Go.Proofs.YtnlnmfkmbpihhaaGreatDoor
open Go.RowKit Go.Maps

/-- Integers that are 64 bits wide. -/
def I64 (n : Int) : Prop := (Lit.int .i64 n).wf = true
/-- A layout as a map's key. -/
def layK (d p : Int) : Lit := .string (keyBytes [.int .i64 d, .int .i64 p])
theorem lay_keyType : Tryz.prog.keyType 31 = true := by kernel_rfl
theorem lay_cells : Tryz.prog.cellsOf 31 = 2 := by kernel_rfl
theorem int_cells : Tryz.prog.cellsOf 3 = 1 := by kernel_rfl
theorem types_some : 0 < Tryz.prog.types.size := of_decide_eq_true (by kernel_rfl)
theorem lay_formed (d p : Int) : (Value.agg #[.int .i64 d, .int .i64 p]).formed Tryz.prog 31 = true := by
 simp [Value.formed, Tryz.underlying31, lay_cells]
theorem lay_lits (m : Nat) (d p : Int) (hd : (Lit.int .i64 d).wf = true) (hp : (Lit.int .i64 p).wf = true) : Tryz.prog.keyLits (m + 1 + 1) 31 [.int .i64 d, .int .i64 p] = some [.int .i64 d, .int .i64 p] := by
 simp [Program.keyLits, Tryz.underlying31, Tryz.underlying3, lay_cells, int_cells, hd, hp]
theorem key_lay {d p : Int} (hd : I64 d) (hp : I64 p) : keyOf Tryz.prog 31 (.agg #[.int .i64 d, .int .i64 p]) = some (layK d p) := by
 obtain ⟨m, hm⟩ : ∃ m, Tryz.prog.types.size = m + 1 := ⟨Tryz.prog.types.size - 1, by have := types_some; omega⟩
 have hl := lay_lits m d p hd hp
 rw [← hm] at hl
 unfold keyOf layK
 rw [Tryz.underlying31]
 dsimp only
 rw [lay_keyType, lay_formed, Bool.and_self, if_pos rfl]
 show Option.map _ (Tryz.prog.keyLits (Tryz.prog.types.size + 1) 31 [.int .i64 d, .int .i64 p]) = _
 rw [hl]
 rfl
theorem keyedL : Keyed Tryz.prog 31 := Keyed.of_law (deep_law_laid (m := 3) (by kernel_rfl) (by decide) (of_decide_eq_true (by kernel_rfl)) (by kernel_rfl) (by kernel_rfl))
theorem layK_inj {d p d' p' : Int} (hd : I64 d) (hp : I64 p) (hd' : I64 d') (hp' : I64 p') (h : layK d p = layK d' p') : d = d' ∧ p = p' := by
 have e := keyedL.inj (key_lay hd hp) (h ▸ key_lay hd' hp')
 simpa using e
/-- What is known of a session's layout: none yet, one, or a conflict. -/
abbrev LSt := Option (Option (Int × Int))
def layStep (ss : Int) (st : LSt) (f : Frm) : LSt :=
 if f.s = ss then (match st with
  | none => none
  | some none => some (some (f.d, f.p))
  | some (some x) => if x = (f.d, f.p) then some (some x) else none) else st
def layR : LSt → Value
 | none => .tuple #[.agg #[.int .i64 0, .int .i64 0], .int .i64 20]
 | some none => .tuple #[.agg #[.int .i64 0, .int .i64 0], .int .i64 19]
 | some (some x) => .tuple #[.agg #[.int .i64 x.1, .int .i64 x.2], .int .i64 0]
def layF (ss : Int) (fs : List Frm) : Value := layR (fs.foldl (layStep ss) (some none))
theorem lay_none (ss : Int) : ∀ fs : List Frm, fs.foldl (layStep ss) none = none
 | [] => rfl
 | f :: r => by
  have h : layStep ss none f = none := by unfold layStep; split <;> rfl
  rw [List.foldl_cons, h]
  exact lay_none ss r
/-- The map of the layouts met. -/
def MapL (D : DataW Unit) : LSt → Prop
 | some none => Maps.size D = 0 ∧ IsMap D ∧ ∀ k, has D k = false
 | some (some x) => Maps.size D = 1 ∧ IsMap D ∧ I64 x.1 ∧ I64 x.2 ∧ has D (layK x.1 x.2) = true ∧ ∀ k, k ≠ layK x.1 x.2 → has D k = false
 | none => 2 ≤ Maps.size D ∧ IsMap D
theorem MapL.put {D : DataW Unit} {st : LSt} (h : MapL D st) (ht : Tidy D) {f : Frm} (hd : I64 f.d) (hp : I64 f.p) : MapL (D.put (layK f.d f.p) (.lit (.bool true))) (layStep f.s st f) := by
 have hk : WideAt.IsKeyLit (layK f.d f.p) := trivial
 have hs := size_put (k := layK f.d f.p) ht (.lit (.bool true))
 unfold layStep
 rw [if_pos rfl]
 match st, h with
 | none, h =>
  refine ⟨?_, h.2.put _ _⟩
  rw [hs]
  have := h.1
  split <;> omega
 | some none, h =>
  refine ⟨by rw [hs, h.2.2, h.1]; rfl, h.2.1.put _ _, hd, hp, has_put_same h.2.1 hk _, fun k hk2 => ?_⟩
  rw [has_put_other hk2]
  exact h.2.2 k
 | some (some x), h =>
  obtain ⟨h1, h2, h3, h4, h5, h6⟩ := h
  dsimp only
  split
  ·next e =>
   subst e
   refine ⟨by rw [hs, h5, h1]; rfl, h2.put _ _, h3, h4, has_put_same h2 hk _, fun k hk2 => ?_⟩
   rw [has_put_other hk2]
   exact h6 k hk2
  ·next e =>
   have hne : layK f.d f.p ≠ layK x.1 x.2 := fun e2 => by
    obtain ⟨q1, q2⟩ := layK_inj hd hp h3 h4 e2
    exact e (by rw [q1, q2])
   refine ⟨?_, h2.put _ _⟩
   rw [hs, h6 _ hne, h1]
   exact Nat.le_refl _
theorem own_map_heap {W W' : World} {b n : Nat} {k : TypeId} {R : Value → Option (DataW Unit × List MemPlace)} {D : DataW Unit} (h : W.ownsMap Tryz.prog k R b n D) (e : W'.heap[b]? = W.heap[b]?) : W'.ownsMap Tryz.prog k R b n D := by
 obtain ⟨es, clock, h1, h2⟩ := h
 exact ⟨es, clock, e.trans h1, h2⟩
theorem Tryz.sizeLay : (Tryz.prog.info? 31).map (·.size) = some 2 := by kernel_rfl
theorem lay_store {ops : Array Oper} {rest : List Oper} {op : Oper} {a : Act} {W : World} {Q : Exit → Act → World → Prop} (hgd : op.guard = none) (x y : Operand) (ho : op.op = .store 31 x y)
  (b : Nat) (cells : Array Value) (hx : a.eval x = .pointer (some ⟨b, 0, none⟩)) (hy : a.eval y = .agg cells)
  (ht : W.there b 0 cells.size) (h2 : cells.size = 2) (h1 : cells.all (·.oneCell') = true) (W1 : World) (hE : W.setCells b 0 cells.toList = W1)
  (h : wpList Tryz.prog ops Q rest (a.put op.dst undef) W1) : wpList Tryz.prog ops Q (op :: rest) a W :=
 wpList_store_mid hgd 31 x y ho b 0 cells hx hy ht (by rw [h2]; exact Tryz.sizeLay) h1 (by rw [hE]; exact h)
/-- A store of two numbers into a block of its own. -/
theorem two_set {W : World} {g : Nat} {u v : Value} (h : Blk W g 31 [u, v]) (a b : Int) : ∃ W1, W.setCells g 0 [.int .i64 a, .int .i64 b] = W1 ∧ Blk W1 g 31 [.int .i64 a, .int .i64 b] ∧ Turned W W1 g :=
 ⟨_, rfl, by simpa using setCells_blk [.int .i64 a, .int .i64 b] [] [u, v] W h rfl, setCells_turned _ _ _ _⟩
theorem zeroElB (W : World) : (zeroValue 4).run Tryz.prog W = .ok (.bool false) W := by first | exact Tryz.zeroValue4 W | rfl

set_option maxRecDepth 100000 in
set_option maxHeartbeats 16000000 in
theorem lay_any (w : World) (ar : Int) (v : Value) (fs : List Frm) (ss : Int) (hv : FrmsAt w v fs) (hw : ∀ f ∈ fs, I64 f.d ∧ I64 f.p) (hl : fs.length ≤ 1000) :
  Calls Tryz.prog 32 #[.agg #[.int .u32 ar, v], .int .i64 ss] w fun e w' => e = .returned (layF ss fs) ∧ Below w.heap.size w w' := by
 have Hv := Lib.hid hv
 have Hw := Lib.hid hw
 obtain ⟨A, c, rfl, h1, h2, h3⟩ := hv
 clear h3 hw
 obtain ⟨R, hR⟩ : ∃ R, layF ss fs = R := ⟨_, rfl⟩
 rw [hR]
 have HR := Lib.hid hR
 have hmm := @run_makeMap Tryz.prog
 obtain ⟨wa, hwa⟩ : ∃ wa, w.alloc (.cells #[.int .u32 ar, .slice A fs.length c] 55) = wa := ⟨_, rfl⟩
 have ha : Blk wa w.heap.size 55 [.int .u32 ar, .slice A fs.length c] := hwa ▸ Blk.new w 55 [.int .u32 ar, .slice A fs.length c]
 have sa : wa.heap.size = w.heap.size + 1 := by rw [← hwa]; simp
 have Ba : Below w.heap.size w wa := hwa ▸ (Below.refl _ _).alloc (Nat.le_refl _) _
 obtain ⟨wb, hwb⟩ : ∃ wb, wa.alloc (.cells #[.int .i64 0, .int .i64 0] 31) = wb := ⟨_, rfl⟩
 have hb : Blk wb (w.heap.size + 1) 31 [.int .i64 0, .int .i64 0] := by rw [← sa, ← hwb]; exact Blk.new wa 31 [.int .i64 0, .int .i64 0]
 have ha2 : Blk wb w.heap.size 55 [.int .u32 ar, .slice A fs.length c] := hwb ▸ ha.alloc _
 have sb : wb.heap.size = w.heap.size + 1 + 1 := by rw [← hwb]; simp [sa]
 have Bb : Below w.heap.size w wb := hwb ▸ Ba.alloc Ba.size _
 obtain ⟨wc, hwc⟩ : ∃ wc, wb.alloc (.map #[] 0) = wc := ⟨_, rfl⟩
 have hm0 : wc.ownsMap (H := Unit) Tryz.prog 31 (plainElem Tryz.prog 4) (w.heap.size + 1 + 1) 0 (.map []) := by rw [← sb, ← hwc]; exact World.ownsMap_made (H := Unit) wb Tryz.prog 31 (plainElem Tryz.prog 4)
 have ha3 : Blk wc w.heap.size 55 [.int .u32 ar, .slice A fs.length c] := hwc ▸ ha2.alloc _
 have hb3 : Blk wc (w.heap.size + 1) 31 [.int .i64 0, .int .i64 0] := hwc ▸ hb.alloc _
 have sc : wc.heap.size = w.heap.size + 1 + 1 + 1 := by rw [← hwc]; simp [sb]
 have Bc : Below w.heap.size w wc := hwc ▸ Bb.alloc Bb.size _
 obtain ⟨wz, hwz⟩ : ∃ wz, wc.alloc (.cells #[.int .i64 0, .int .i64 0] 31) = wz := ⟨_, rfl⟩
 have hd : Blk wz (w.heap.size + 1 + 1 + 1) 31 [.int .i64 0, .int .i64 0] := by rw [← sc, ← hwz]; exact Blk.new wc 31 [.int .i64 0, .int .i64 0]
 have HM := Lib.hid (hwz ▸ hm0.alloc (.cells #[.int .i64 0, .int .i64 0] 31) : wz.ownsMap (H := Unit) Tryz.prog 31 (plainElem Tryz.prog 4) (w.heap.size + 1 + 1) 0 (.map []))
 have HA : Hid (Blk wz w.heap.size 55 [.int .u32 ar, .slice A fs.length c]) := Lib.hid (hwz ▸ ha3.alloc _)
 have HB : Hid (Blk wz (w.heap.size + 1) 31 [.int .i64 0, .int .i64 0]) := Lib.hid (hwz ▸ hb3.alloc _)
 have HD := Lib.hid hd
 have HBz : Hid (Below w.heap.size w wz) := Lib.hid (hwz ▸ Bc.alloc Bc.size _)
 have hWW : (((w.alloc (.cells #[.int .u32 ar, .slice A fs.length c] 55)).alloc (.cells #[.int .i64 0, .int .i64 0] 31)).alloc (.map #[] 0)).alloc (.cells #[.int .i64 0, .int .i64 0] 31) = wz := by rw [hwa, hwb, hwc, hwz]
 clear ha sa Ba hb ha2 sb Bb hm0 ha3 hb3 sc Bc hd hwa hwb hwc hwz hR
 go_enter Tryz.func32, Tryz.ntmps32
 go_upto_region 3 with fail
 (try rw [hWW])
 clear hmm hWW
 have hz1 := HA.out.cell (i := 1) rfl
 go_wp2
 go_loopw [14] (fun x wr => ∃ (k : Nat) (st : LSt) (D : DataW Unit) (la lb : Int), k ≤ fs.length ∧ x = .int .i64 (k : Int) ∧ R = layR ((fs.drop k).foldl (layStep ss) st) ∧ wr.ownsMap Tryz.prog 31 (plainElem Tryz.prog 4) (w.heap.size + 1 + 1) k D ∧ MapL D st ∧ (∀ y, st = some (some y) → y = (la, lb)) ∧
  Blk wr (w.heap.size + 1) 31 [.int .i64 0, .int .i64 0] ∧ Blk wr (w.heap.size + 1 + 1 + 1) 31 [.int .i64 la, .int .i64 lb] ∧ Below w.heap.size w wr) (fun x _ => fs.length - (intOf x).toNat)
 case atStart => exact ⟨0, some none, .map [], 0, 0, by omega, rfl, by rw [List.drop_zero]; exact HR.out.symm, HM.out, ⟨rfl, isMap_empty, fun _ => rfl⟩, (fun y hy => by cases hy), HB.out, HD.out, HBz.out⟩
 case round =>
  obtain ⟨k, st, D, la, lb, hk, rfl, hr, hown, hml, hst, hb, hd, hB⟩ := hrel
  clear HR HM HB HD HBz HA hz1
  have HBr := Lib.hid hB
  have Hr := Lib.hid hr
  have Hown := Lib.hid hown
  have Hml := Lib.hid hml
  have Hst := Lib.hid hst
  have Hb := Lib.hid hb
  have Hd := Lib.hid hd
  clear hB hr hown hml hst hb hd
  by_cases h : k < fs.length
  ·have hkI : (k : Int) < fs.length := by omega
   obtain ⟨f, hf⟩ : ∃ f, fs[k]? = some f := ⟨_, List.getElem?_eq_getElem h⟩
   have hwf := Hw.out f (List.mem_of_getElem? hf)
   obtain ⟨_, _, e9, _, _, h4⟩ := Hv.out.below HBr.out
   cases e9
   obtain ⟨b, o, rfl, h5⟩ := h4 k f hf
   have hd := Hr.out
   rw [frm_drop hf, List.foldl_cons] at hd
   have Hd2 := Lib.hid hd
   obtain ⟨k0, r0, s0, i0, l0, d0, p0, a0, t0⟩ := f
   have c0 := h5 0 _ rfl
   have c1 := h5 1 _ rfl
   have c2 := h5 2 _ rfl
   have c3 := h5 3 _ rfl
   have c4 := h5 4 _ rfl
   have c5 := h5 5 _ rfl
   have c6 := h5 6 _ rfl
   have c7 := h5 7 _ rfl
   have c8 := h5 8 _ rfl
   dsimp only at c0 c1 c2 c3 c4 c5 c6 c7 c8
   rw [Nat.add_zero] at c0
   clear h4 h5 hd hf Hr
   have hF := Blk.new wr 34 [.int .i64 k0, .int .i64 r0, .int .i64 s0, .int .i64 i0, .int .i64 l0, .int .i64 d0, .int .i64 p0, .int .u32 a0, .string t0]
   change Blk (wr.alloc (.cells #[.int .i64 k0, .int .i64 r0, .int .i64 s0, .int .i64 i0, .int .i64 l0, .int .i64 d0, .int .i64 p0, .int .u32 a0, .string t0] 34)) _ _ _ at hF
   have hBy := HBr.out.alloc HBr.out.size (.cells #[.int .i64 k0, .int .i64 r0, .int .i64 s0, .int .i64 i0, .int .i64 l0, .int .i64 d0, .int .i64 p0, .int .u32 a0, .string t0] 34)
   have hmy := Hown.out.alloc (.cells #[.int .i64 k0, .int .i64 r0, .int .i64 s0, .int .i64 i0, .int .i64 l0, .int .i64 d0, .int .i64 p0, .int .u32 a0, .string t0] 34)
   have hby := Hb.out.alloc (.cells #[.int .i64 k0, .int .i64 r0, .int .i64 s0, .int .i64 i0, .int .i64 l0, .int .i64 d0, .int .i64 p0, .int .u32 a0, .string t0] 34)
   have hdy := Hd.out.alloc (.cells #[.int .i64 k0, .int .i64 r0, .int .i64 s0, .int .i64 i0, .int .i64 l0, .int .i64 d0, .int .i64 p0, .int .u32 a0, .string t0] 34)
   go_upto_region 6 with fail
   clear c0 c1 c2 c3 c4 c5 c6 c7 c8
   have hlt := Hd.out.lt
   generalize wr.alloc (.cells #[.int .i64 k0, .int .i64 r0, .int .i64 s0, .int .i64 i0, .int .i64 l0, .int .i64 d0, .int .i64 p0, .int .u32 a0, .string t0] 34) = wy at *
   have f2 := hF.cell (i := 2) rfl
   have f5 := hF.cell (i := 5) rfl
   have f6 := hF.cell (i := 6) rfl
   have HBy := Lib.hid hBy
   have Hmy := Lib.hid hmy
   have Hby := Lib.hid hby
   have Hdy := Lib.hid hdy
   clear hF hBy hmy hby hdy HBr Hown Hb Hd
   by_cases hs : s0 = ss
   ·subst hs
    obtain ⟨W1, hE, hbw, htu⟩ := two_set Hdy.out d0 p0
    have HT := Lib.hid Hdy.out.there
    have HE := Lib.hid hE
    have hm1 := own_map_heap Hmy.out (htu.other (w.heap.size + 1 + 1) (by omega))
    have hb1 := Hby.out.turned htu (by omega)
    have hB1 := htu.below HBy.out (show w.heap.size ≤ w.heap.size + 1 + 1 + 1 by omega)
    have Hm1 := Lib.hid hm1
    have Hb1 := Lib.hid hb1
    have HB1 := Lib.hid hB1
    have Hbw := Lib.hid hbw
    have g0 := hbw.cell (i := 0) rfl
    have g1 := hbw.cell (i := 1) rfl
    have hkl := key_lay hwf.1 hwf.2
    have Hkl := Lib.hid hkl
    have Hwf := Lib.hid hwf
    clear hE hm1 hb1 hB1 hbw htu hkl hwf Hby Hmy HBy
    go_wp2_with (first
     | (refine lay_store rfl (.tmp 7) (.tmp 23) rfl _ _ rfl rfl HT.out rfl (by simp [Value.oneCell']) W1 HE.out ?_)
     | (at_mapUpdate; refine wpList_mapUpdate_own _ rfl _ _ _ 119 rfl 31 4 keyedL Tryz.underlying119 _ (w.heap.size + 1 + 1) k _ rfl Hm1.out (by unfold maxLen; omega) _ _ _ rfl rfl Hkl.out _ [] (plainElem_bool Tryz.underlying4 true) ?_; intro w7 hown7 hgrow7; have Hown7 := Lib.hid hown7; have Hgr7 := Lib.hid hgrow7; clear hown7 hgrow7))
    have HB7 := Lib.hid (HB1.out.grown Hgr7.out HB1.out.size (fun j hj => by cases hj; omega))
    have hb7 := Hb1.out.of_heap (Hgr7.out.block _ Hb1.out.lt (fun e => by have := Option.some.inj e; omega))
    have hd7 := Hbw.out.of_heap (Hgr7.out.block _ Hbw.out.lt (fun e => by have := Option.some.inj e; omega))
    have Hb7 := Lib.hid hb7
    have Hd7 := Lib.hid hd7
    have hml7 := Hml.out.put (f := ⟨k0, r0, s0, i0, l0, d0, p0, a0, t0⟩) (Hm1.out.tidy keyedL) Hwf.out.1 Hwf.out.2
    have Hml7 := Lib.hid hml7
    have Hst7 : Hid (∀ y, layStep s0 st ⟨k0, r0, s0, i0, l0, d0, p0, a0, t0⟩ = some (some y) → y = (d0, p0)) := Lib.hid (fun y hy => by
     unfold layStep at hy
     rw [if_pos rfl] at hy
     dsimp only at hy
     split at hy
     ·cases hy
     ·cases hy; rfl
     ·split at hy
      ·next e => cases hy; exact e
      ·cases hy)
    clear hb7 hd7 hml7 Hb1 Hbw HB1 Hm1
    go_roundw
    case rel => exact ⟨k + 1, _, _, d0, p0, by omega, by go_num, Hd2.out, Hown7.out, Hml7.out, Hst7.out, Hb7.out, Hd7.out, HB7.out⟩
    case measure => simp [intOf]; omega
   ·have hne : (s0 == ss) = false := by rw [beq_eq_false_iff_ne]; exact hs
    have hst2 : layStep ss st ⟨k0, r0, s0, i0, l0, d0, p0, a0, t0⟩ = st := by unfold layStep; rw [if_neg hs]
    have hd := Hd2.out
    rw [hst2] at hd
    have Hd3 := Lib.hid hd
    clear hd hst2 hs
    go_wp2
    go_roundw
    case rel => exact ⟨k + 1, st, D, la, lb, by omega, by go_num, Hd3.out, Hmy.out.mono (by omega), Hml.out, Hst.out, Hby.out, Hdy.out, HBy.out⟩
    case measure => simp [intOf]; omega
  ·obtain rfl : k = fs.length := by omega
   have hkI : ¬ (fs.length : Int) < fs.length := by omega
   have hr := Hr.out
   rw [List.drop_length, List.foldl_nil] at hr
   have hlen := Hown.out.len Tryz.underlying119 3
   have hszl := Hown.out.size_le
   obtain ⟨cn, hcn⟩ : ∃ cn, Maps.size D = cn := ⟨_, rfl⟩
   rw [hcn] at hlen hszl
   have d0 := Hd.out.cell (i := 0) rfl
   have d1 := Hd.out.cell (i := 1) rfl
   have HT := Lib.hid Hb.out.there
   have hmlc := Hml.out
   rcases st with _ | _ | y
   ·have e0 : 2 ≤ cn := by rw [← hcn]; exact hmlc.1
    have q0 : ((cn : Int) == 0) = false := by rw [beq_eq_false_iff_ne]; omega
    have q1 : ((cn : Int) == 1) = false := by rw [beq_eq_false_iff_ne]; omega
    obtain ⟨W1, hE, hbw, htu⟩ := two_set Hb.out 0 0
    have HE := Lib.hid hE
    have HB1 := Lib.hid (htu.below HBr.out (show w.heap.size ≤ w.heap.size + 1 by omega))
    have Hbw := Lib.hid hbw
    have Hr2 := Lib.hid hr
    clear hE hbw htu hr hmlc hcn Hr
    go_wp2_with (refine lay_store rfl (.tmp 4) (.tmp 35) rfl _ _ rfl rfl HT.out rfl (by simp [Value.oneCell']) W1 HE.out ?_)
    have m0 := Hbw.out.cell (i := 0) rfl
    have m1 := Hbw.out.cell (i := 1) rfl
    exact bodyPost_ret (v := .tuple #[.agg #[.int .i64 0, .int .i64 0], .int .i64 20]) (by simp [results, Tryz.results32, go_sem, m0, m1]) rfl ⟨congrArg Ending.returned Hr2.out.symm, HB1.out⟩
   ·have e0 : cn = 0 := by rw [← hcn]; exact hmlc.1
    subst e0
    obtain ⟨W1, hE, hbw, htu⟩ := two_set Hb.out 0 0
    have HE := Lib.hid hE
    have HB1 := Lib.hid (htu.below HBr.out (show w.heap.size ≤ w.heap.size + 1 by omega))
    have Hbw := Lib.hid hbw
    have Hr2 := Lib.hid hr
    clear hE hbw htu hr hmlc hcn Hr
    go_wp2_with (refine lay_store rfl (.tmp 4) (.tmp 31) rfl _ _ rfl rfl HT.out rfl (by simp [Value.oneCell']) W1 HE.out ?_)
    have m0 := Hbw.out.cell (i := 0) rfl
    have m1 := Hbw.out.cell (i := 1) rfl
    exact bodyPost_ret (v := .tuple #[.agg #[.int .i64 0, .int .i64 0], .int .i64 19]) (by simp [results, Tryz.results32, go_sem, m0, m1]) rfl ⟨congrArg Ending.returned Hr2.out.symm, HB1.out⟩
   ·have e0 : cn = 1 := by rw [← hcn]; exact hmlc.1
    subst e0
    obtain rfl := Hst.out y rfl
    obtain ⟨W1, hE, hbw, htu⟩ := two_set Hb.out la lb
    have HE := Lib.hid hE
    have HB1 := Lib.hid (htu.below HBr.out (show w.heap.size ≤ w.heap.size + 1 by omega))
    have Hbw := Lib.hid hbw
    have Hr2 := Lib.hid hr
    clear hE hbw htu hr hmlc hcn Hr
    go_wp2_with (refine lay_store rfl (.tmp 4) (.tmp 34) rfl _ _ rfl rfl HT.out rfl (by simp [Value.oneCell']) W1 HE.out ?_)
    have m0 := Hbw.out.cell (i := 0) rfl
    have m1 := Hbw.out.cell (i := 1) rfl
    exact bodyPost_ret (v := .tuple #[.agg #[.int .i64 la, .int .i64 lb], .int .i64 0]) (by simp [results, Tryz.results32, go_sem, m0, m1]) rfl ⟨congrArg Ending.returned Hr2.out.symm, HB1.out⟩

end Go.Proofs.YtnlnmfkmbpihhaaGreatDoor
