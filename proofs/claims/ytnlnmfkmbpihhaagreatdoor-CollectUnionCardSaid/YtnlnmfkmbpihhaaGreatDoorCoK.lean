/-
 WALK: steleref44.less.
 WALKS: collect.Sessions, steleref44.Sessions, SameInts.
 WALK: steleref44.Insert.
-/
import Derived.Test.YtnlnmfkmbpihhaaGreatDoorCoO
import Derived.Test.YtnlnmfkmbpihhaaGreatDoorCoA
import Derived.Test.YtnlnmfkmbpihhaaGreatDoorShelg
import Derived.Maps.AppendAt
import Derived.Lib.OwnBridge
import Derived.Lib.RowBridge
import Derived.Shelf.Sort.Plain
import Derived.Shelf.Slices.In.SortNone
import Derived.Shelf.Slices.CompactI
import Derived.DeepKeys4
import Derived.Maps.OwnOps
import Derived.Maps.OwnSet
import Derived.Maps.Views
import Derived.Carry
namespace Go.Proofs.YtnlnmfkmbpihhaaGreatDoor
open Go.RowKit

/-- The first pair that differs says; else q. -/
def lesL (q : Bool) : List Int → List Int → Bool
 | x :: r, y :: s => if x = y then lesL q r s else decide (x < y)
 | _, _ => q
def Frm.ints (f : Frm) : List Int := [f.s, f.k, f.r, f.i, f.d, f.p, f.l]
def lesF (f g : Frm) : Bool := lesL (Op.bytesLess f.t.toList g.t.toList) f.ints g.ints
theorem bytesLess_cmp : ∀ x y : List UInt8, Op.bytesLess x y = decide (Lib.compareBytes x y < 0)
 | [], [] => rfl
 | [], _ :: _ => rfl
 | _ :: _, [] => rfl
 | a :: x, b :: y => by
  rw [Op.bytesLess, Lib.compareBytes, bytesLess_cmp x y]
  by_cases h1 : a < b
  ·simp [h1]
  ·by_cases h2 : b < a
   ·have hne : ¬ a = b := fun e => by subst e; exact h1 h2
    simp [h1, h2, hne]
   ·have he : a = b := by
     have n1 : ¬ a.toNat < b.toNat := h1
     have n2 : ¬ b.toNat < a.toNat := h2
     exact UInt8.toNat_inj.1 (by omega)
    subst he
    simp [h1]
theorem lesL_orL (q : Bool) (z : Int) (hq : q = decide (z < 0)) : ∀ xs ys : List Int, xs.length = ys.length → lesL q xs ys = decide (orL (List.zipWith Lib.compareInt xs ys ++ [z]) < 0)
 | [], [], _ => by rw [lesL, hq, List.zipWith_nil_left, List.nil_append, orL_one]; exact fun _ _ _ _ h => nomatch h
 | x :: r, y :: s, h => by
  rw [lesL, List.zipWith_cons_cons, List.cons_append, orL_cons, lesL_orL q z hq r s (by simpa using h)]
  by_cases e : x = y
  ·rw [if_pos e, if_neg (by rw [cmpInt_zero.2 e]; simp)]
  ·rw [if_neg e, if_pos (fun h => e (cmpInt_zero.1 h))]
   exact decide_eq_decide.2 cmpInt_lt.symm
theorem lesF_cmp (f g : Frm) : lesF f g = decide (cmpF f g < 0) := by
 unfold lesF
 have h := lesL_orL (Op.bytesLess f.t.toList g.t.toList) (Lib.compareBytes f.t.data.toList g.t.data.toList) (by rw [bytesLess_cmp, Lib.toList_data, Lib.toList_data]) f.ints g.ints rfl
 rw [h]
 rfl

set_option maxRecDepth 100000 in
set_option maxHeartbeats 16000000 in
theorem less_any (w : World) (f g : Frm) : Calls Tryz.prog 123 #[f.v, g.v] w fun e w' => e = .returned (.bool (lesF f g)) ∧ Below w.heap.size w w' := by
 have hlen : f.ints.length = 7 := rfl
 have hleg : g.ints.length = 7 := rfl
 obtain ⟨R, hR⟩ : ∃ R, lesF f g = R := ⟨_, rfl⟩
 have hR2 : lesL (Op.bytesLess f.t.toList g.t.toList) f.ints g.ints = R := hR
 rw [hR]
 have HR := Lib.hid hR2
 clear hR hR2
 obtain ⟨F, hF⟩ : ∃ F, f.ints = F := ⟨_, rfl⟩
 obtain ⟨G, hG⟩ : ∃ G, g.ints = G := ⟨_, rfl⟩
 rw [hF, hG] at HR
 obtain ⟨k, r, s, i, l, d, p, a, t⟩ := f
 obtain ⟨k', r', s', i', l', d', p', a', t'⟩ := g
 have HF : Hid (([.int .i64 s, .int .i64 k, .int .i64 r, .int .i64 i, .int .i64 d, .int .i64 p, .int .i64 l] : List Value) = F.map fun x => .int .i64 x) := Lib.hid (by rw [← hF]; rfl)
 have HG : Hid (([.int .i64 s', .int .i64 k', .int .i64 r', .int .i64 i', .int .i64 d', .int .i64 p', .int .i64 l'] : List Value) = G.map fun x => .int .i64 x) := Lib.hid (by rw [← hG]; rfl)
 rw [hF] at hlen
 rw [hG] at hleg
 have Hlen := Lib.hid hlen
 have Hleg := Lib.hid hleg
 clear hF hG hlen hleg
 unfold Frm.v frV
 dsimp only at *
 obtain ⟨wa, hwa⟩ : ∃ wa, w.alloc (.cells #[.int .i64 k, .int .i64 r, .int .i64 s, .int .i64 i, .int .i64 l, .int .i64 d, .int .i64 p, .int .u32 a, .string t] 34) = wa := ⟨_, rfl⟩
 have ha : Blk wa w.heap.size 34 [.int .i64 k, .int .i64 r, .int .i64 s, .int .i64 i, .int .i64 l, .int .i64 d, .int .i64 p, .int .u32 a, .string t] := hwa ▸ Blk.new w 34 _
 have sa : wa.heap.size = w.heap.size + 1 := by rw [← hwa]; simp
 have Ba : Below w.heap.size w wa := hwa ▸ (Below.refl _ _).alloc (Nat.le_refl _) _
 obtain ⟨wz, hwz⟩ : ∃ wz, wa.alloc (.cells #[.int .i64 k', .int .i64 r', .int .i64 s', .int .i64 i', .int .i64 l', .int .i64 d', .int .i64 p', .int .u32 a', .string t'] 34) = wz := ⟨_, rfl⟩
 have hb : Blk wz (w.heap.size + 1) 34 [.int .i64 k', .int .i64 r', .int .i64 s', .int .i64 i', .int .i64 l', .int .i64 d', .int .i64 p', .int .u32 a', .string t'] := by rw [← sa, ← hwz]; exact Blk.new wa 34 _
 have ha2 : Blk wz w.heap.size 34 [.int .i64 k, .int .i64 r, .int .i64 s, .int .i64 i, .int .i64 l, .int .i64 d, .int .i64 p, .int .u32 a, .string t] := hwz ▸ ha.alloc _
 have HA := Lib.hid ha2
 have HB := Lib.hid hb
 have Hsz : Hid (wz.heap.size = w.heap.size + 1 + 1) := Lib.hid (by rw [← hwz]; simp [sa])
 have HBz : Hid (Below w.heap.size w wz) := Lib.hid (hwz ▸ Ba.alloc Ba.size _)
 have hWW : (w.alloc (.cells #[.int .i64 k, .int .i64 r, .int .i64 s, .int .i64 i, .int .i64 l, .int .i64 d, .int .i64 p, .int .u32 a, .string t] 34)).alloc (.cells #[.int .i64 k', .int .i64 r', .int .i64 s', .int .i64 i', .int .i64 l', .int .i64 d', .int .i64 p', .int .u32 a', .string t'] 34) = wz := by rw [hwa, hwz]
 clear ha sa Ba hb ha2 hwa hwz
 go_enter Tryz.func123, Tryz.ntmps123
 go_upto_region 1 with fail
 (try rw [hWW])
 clear hWW
 have c0 := HA.out.cell (i := 0) rfl
 have c1 := HA.out.cell (i := 1) rfl
 have c2 := HA.out.cell (i := 2) rfl
 have c3 := HA.out.cell (i := 3) rfl
 have c4 := HA.out.cell (i := 4) rfl
 have c5 := HA.out.cell (i := 5) rfl
 have c6 := HA.out.cell (i := 6) rfl
 have hx := Blk.new wz 3 [.int .i64 s, .int .i64 k, .int .i64 r, .int .i64 i, .int .i64 d, .int .i64 p, .int .i64 l]
 have hbx := HB.out.alloc (.cells #[.int .i64 s, .int .i64 k, .int .i64 r, .int .i64 i, .int .i64 d, .int .i64 p, .int .i64 l] 3)
 have hax := HA.out.alloc (.cells #[.int .i64 s, .int .i64 k, .int .i64 r, .int .i64 i, .int .i64 d, .int .i64 p, .int .i64 l] 3)
 have hBx := HBz.out.alloc HBz.out.size (.cells #[.int .i64 s, .int .i64 k, .int .i64 r, .int .i64 i, .int .i64 d, .int .i64 p, .int .i64 l] 3)
 have hsx : (wz.alloc (.cells #[.int .i64 s, .int .i64 k, .int .i64 r, .int .i64 i, .int .i64 d, .int .i64 p, .int .i64 l] 3)).heap.size = wz.heap.size + 1 := by simp
 rw [Hsz.out] at hx hsx
 change Blk (wz.alloc (.cells #[.int .i64 s, .int .i64 k, .int .i64 r, .int .i64 i, .int .i64 d, .int .i64 p, .int .i64 l] 3)) _ _ _ at hx
 go_upto_region 2 with fail
 clear c0 c1 c2 c3 c4 c5 c6
 have hz := Hsz.out
 generalize wz.alloc (.cells #[.int .i64 s, .int .i64 k, .int .i64 r, .int .i64 i, .int .i64 d, .int .i64 p, .int .i64 l] 3) = wx at *
 have e1 := congrArg (fun n => n) hz
 generalize wz.heap.size = gz at *
 subst hz
 clear e1
 have HX := Lib.hid hx
 have HBx := Lib.hid hbx
 have HAx := Lib.hid hax
 have HBBx := Lib.hid hBx
 have Hsx := Lib.hid hsx
 clear hx hbx hax hBx hsx HA HB HBz Hsz
 have c0 := HBx.out.cell (i := 0) rfl
 have c1 := HBx.out.cell (i := 1) rfl
 have c2 := HBx.out.cell (i := 2) rfl
 have c3 := HBx.out.cell (i := 3) rfl
 have c4 := HBx.out.cell (i := 4) rfl
 have c5 := HBx.out.cell (i := 5) rfl
 have c6 := HBx.out.cell (i := 6) rfl
 have hy := Blk.new wx 3 [.int .i64 s', .int .i64 k', .int .i64 r', .int .i64 i', .int .i64 d', .int .i64 p', .int .i64 l']
 have hby := HBx.out.alloc (.cells #[.int .i64 s', .int .i64 k', .int .i64 r', .int .i64 i', .int .i64 d', .int .i64 p', .int .i64 l'] 3)
 have hay := HAx.out.alloc (.cells #[.int .i64 s', .int .i64 k', .int .i64 r', .int .i64 i', .int .i64 d', .int .i64 p', .int .i64 l'] 3)
 have hxy := HX.out.alloc (.cells #[.int .i64 s', .int .i64 k', .int .i64 r', .int .i64 i', .int .i64 d', .int .i64 p', .int .i64 l'] 3)
 have hBy := HBBx.out.alloc HBBx.out.size (.cells #[.int .i64 s', .int .i64 k', .int .i64 r', .int .i64 i', .int .i64 d', .int .i64 p', .int .i64 l'] 3)
 change Blk (wx.alloc (.cells #[.int .i64 s', .int .i64 k', .int .i64 r', .int .i64 i', .int .i64 d', .int .i64 p', .int .i64 l'] 3)) _ _ _ at hy
 go_upto_region 3 with fail
 clear c0 c1 c2 c3 c4 c5 c6
 generalize wx.alloc (.cells #[.int .i64 s', .int .i64 k', .int .i64 r', .int .i64 i', .int .i64 d', .int .i64 p', .int .i64 l'] 3) = wy at *
 generalize wx.heap.size = gx at *
 rw [HF.out] at hxy
 rw [HG.out] at hy
 have HY := Lib.hid hy
 have HX := Lib.hid hxy
 have HAy := Lib.hid hay
 have HBy := Lib.hid hby
 have HBBy := Lib.hid hBy
 clear hy hxy hay hby hBy Hsx HF HG
 go_wp2
 go_loopw [7] (fun x wr => ∃ k : Nat, k ≤ 7 ∧ x = .int .i64 (k : Int) ∧ R = lesL (Op.bytesLess t.toList t'.toList) (F.drop k) (G.drop k) ∧ Below wy.heap.size wy wr) (fun x _ => 7 - (intOf x).toNat)
 case atStart => exact ⟨0, by omega, rfl, HR.out.symm, Below.refl _ _⟩
 case round =>
  obtain ⟨j, hj, rfl, hr, hB⟩ := hrel
  have Hr := Lib.hid hr
  have HBr := Lib.hid hB
  clear hr hB HR
  by_cases h : j < 7
  ·have hjI : (j : Int) < 7 := by omega
   have hf1 : j < F.length := by rw [Hlen.out]; exact h
   have hg1 : j < G.length := by rw [Hleg.out]; exact h
   obtain ⟨x, hx⟩ : ∃ x, F[j]? = some x := ⟨_, List.getElem?_eq_getElem hf1⟩
   obtain ⟨y, hy⟩ : ∃ y, G[j]? = some y := ⟨_, List.getElem?_eq_getElem hg1⟩
   have c1 := cell_below HBr.out (HX.out.cell (i := j) (by rw [List.getElem?_map, hx]; rfl))
   have c2 := cell_below HBr.out (HY.out.cell (i := j) (by rw [List.getElem?_map, hy]; rfl))
   have hd1 : F.drop j = x :: F.drop (j + 1) := by
    obtain ⟨h1, h2⟩ := List.getElem?_eq_some_iff.1 hx
    rw [List.drop_eq_getElem_cons h1, h2]
   have hd2 : G.drop j = y :: G.drop (j + 1) := by
    obtain ⟨h1, h2⟩ := List.getElem?_eq_some_iff.1 hy
    rw [List.drop_eq_getElem_cons h1, h2]
   have hr := Hr.out
   rw [hd1, hd2, lesL] at hr
   clear hx hy hd1 hd2 hf1 hg1 Hr
   by_cases e : x = y
   ·rw [if_pos e] at hr
    subst e
    have Hr := Lib.hid hr
    clear hr
    go_upto_region 6 with fail
    go_quiet (fail)
    go_wp2
    clear c1 c2
    go_roundw
    case rel => exact ⟨j + 1, by omega, by go_num, Hr.out, below_drewN HBr.out nq⟩
    case measure => simp [intOf]; omega
   ·rw [if_neg e] at hr
    have hb0 : (x != y) = true := by rw [bne_iff_ne]; exact e
    have Hr := Lib.hid hr
    clear hr e
    go_upto_region 6 with fail
    go_quiet (fail)
    have c1 := (show _ = _ from c1)
    go_upto_region 7 with fail
    go_quiet (fail)
    go_wp2
    go_ret
    exact ⟨congrArg (fun z => Ending.returned (.bool z)) Hr.out.symm, HBBy.out.trans ((below_drewN HBr.out _).mono HBBy.out.size)⟩
  ·obtain rfl : j = 7 := by omega
   have hr := Hr.out
   rw [List.drop_of_length_le (by rw [Hlen.out]; omega), lesL] at hr
   rotate_left
   ·exact fun _ _ _ _ h => nomatch h
   ·have e1 := (HAy.out.kept HBr.out).cell (i := 8) rfl
    have e2 := (HBy.out.kept HBr.out).cell (i := 8) rfl
    have Hr := Lib.hid hr
    clear hr
    go_wp2
    go_ret
    exact ⟨congrArg (fun z => Ending.returned (.bool z)) Hr.out.symm, HBBy.out.trans (HBr.out.mono HBBy.out.size)⟩
end Go.Proofs.YtnlnmfkmbpihhaaGreatDoor

namespace Go.Proofs.YtnlnmfkmbpihhaaGreatDoor
open Go.RowKit Go.Shelf Go.Sort

theorem own_geC {w : World} {B n size : Nat} {t : TypeId} {v : Value} {xs : List Value} (h : w.ownsRow B t size v n xs) : ∀ k, v.ownBlock = some k → B ≤ k := fun k hk => (h.lt k hk).1
theorem own_putC {w w' : World} {B n size : Nat} {t : TypeId} {v : Value} {xs : List Value} {row : Option Nat} (h : w.ownsRow B t size v n xs) (hg : w.grownBy w' row) (hne : ∀ k, v.ownBlock = some k → row ≠ some k) : w'.ownsRow B t size v n xs :=
 ⟨h.1, h.2.imp id fun ⟨g, cap, cur, e, hB, hh, r⟩ => ⟨g, cap, cur, e, hB, (hg.block g (Array.getElem?_eq_some_iff.1 hh).1 (fun e2 => hne g (by rw [e]; rfl) e2.symm)).trans hh, r⟩⟩
/-- append to a row of the call's own; where the longer row lies. -/
theorem append_atC {P : Program} {ops : Array Oper} {rest : List Oper} {o : Oper} {a : Act} {Q : Exit → Act → World → Prop} (w : World) (hgd : o.guard = none) (s x : Operand) (t : TypeId) (ho : o.op = .call { callee := .builtin .append, args := #[s, x], argTypes := #[t, t] })
  (base : Nat) (e : TypeId) (i : TypeInfo) (z : Value) (size bytes : Nat) (ht : P.underlying t = some (.slice e)) (hi : P.info? e = some i) (hz : i.zero = some z) (hsize : i.size = size) (hby : i.bytes = bytes) (hzs : z.cells.size = size) (hsz : 0 < size)
  (v : Value) (n : Nat) (xs : List Value) (hs : a.eval s = v) (hown : w.ownsRow base e size v n xs) (ad : Addr) (m c : Nat) (news : List Value) (hx : a.eval x = .slice (some ad) m c) (hl : news.length = m * size)
  (hnews : ∀ j u, news[j]? = some u → w.cell? (ad.add j) = some u) (h1 : ∀ u ∈ news, u.oneCell' = true) (h63 : n + m ≤ maxLen) (hbytes : (n + m) * bytes ≤ 140737488355328) (hbase : base ≤ w.heap.size)
  (h : ∀ v' w', w'.ownsRow base e size v' (n + m) (xs ++ news) → w.grownBy w' v.ownBlock → (v'.ownBlock = v.ownBlock ∨ v'.ownBlock = some w.heap.size) → wpList P ops Q rest (a.put o.dst v') w') : wpList P ops Q (o :: rest) a w := by
 obtain ⟨v', w', hr, g1, g2, _, g3⟩ := run_append_own_at (P := P) w base t o.type e i z size bytes ht hi hz hsize hby hzs hsz v n xs hown ad m c news hl hnews h1 h63 hbytes hbase
 refine wpList_plain hgd fun K hK => ?_
 unfold Oper.wp execOp
 simp only [ho, resolve, invoke, builtin, Sem.run_bind, Sem.run_pure, Result.andThen_ok, List.map_toArray, List.map_cons, List.map_nil, hs, hx, hr]
 exact hK _ _ (h v' w' g1 g2 g3)
end Go.Proofs.YtnlnmfkmbpihhaaGreatDoor

namespace Go.Proofs.YtnlnmfkmbpihhaaGreatDoor
open Go.RowKit

theorem own_belowC {w w' : World} {B n size : Nat} {t : TypeId} {v : Value} {xs : List Value} (h : w.ownsRow B t size v n xs) (hb : Below w.heap.size w w') : w'.ownsRow B t size v n xs :=
 own_cells h fun k _ ho _ => (hb.block k (Array.getElem?_eq_some_iff.1 ho).1).trans ho
instance : DecidableEq Frm := fun _ _ => decidable_of_iff _ frEq_iff
theorem frm_flat : ∀ (fs : List Frm) (i : Nat) {f : Frm}, fs[i]? = some f → ∀ j, j < 9 → (fs.flatMap Frm.cells)[i * 9 + j]? = f.cells[j]?
 | [], _, _, h, _, _ => by simp at h
 | x :: r, 0, f, h, j, hj => by
  obtain rfl : x = f := by simpa using h
  rw [List.flatMap_cons, List.getElem?_append_left (by show _ < 9; omega)]
  simp
 | x :: r, i + 1, f, h, j, hj => by
  rw [List.flatMap_cons, List.getElem?_append_right (by show 9 ≤ _; omega), show (i + 1) * 9 + j - x.cells.length = i * 9 + j by show _ - 9 = _; omega]
  exact frm_flat r i (by simpa using h) j hj
theorem FrmsAt.of_own {w : World} {B : Nat} {v : Value} {fs : List Frm} (h : w.ownsRow B 34 9 v fs.length (fs.flatMap Frm.cells)) : FrmsAt w v fs := by
 rcases h.2 with ⟨rfl, h0⟩ | ⟨g, cap, cur, rfl, _, _, h1, h2, _⟩
 ·obtain rfl := List.length_eq_zero_iff.1 h0
  exact ⟨none, 0, rfl, Nat.le_refl _, by omega, fun i f hf => by cases hf⟩
 ·refine ⟨_, _, rfl, h1, by unfold maxLen at h2; omega, fun i f hf => ⟨g, 0, rfl, fun j u hu => ?_⟩⟩
  have hj : j < 9 := (List.getElem?_eq_some_iff.1 hu).1
  have hi : i < fs.length := (List.getElem?_eq_some_iff.1 hf).1
  rw [Nat.zero_add, h.cellAt (i * 9 + j) (by omega), frm_flat fs i hf j hj, hu]
/-- One round of Insert: the flag and the frames so far. -/
def insG (f : Frm) (a : Bool × List Frm) (o : Frm) : Bool × List Frm := if !a.1 && lesF f o then (true, a.2 ++ [f] ++ [o]) else (a.1, a.2 ++ [o])
def insFr (f : Frm) (l : List Frm) : List Frm :=
 if f ∈ l then l else if (l.foldl (insG f) (false, [])).1 then (l.foldl (insG f) (false, [])).2 else (l.foldl (insG f) (false, [])).2 ++ [f]
theorem insG_len (f : Frm) : ∀ (l : List Frm) (a : Bool × List Frm), (l.foldl (insG f) a).2.length ≤ a.2.length + 2 * l.length
 | [], a => by simp
 | o :: r, a => by
  have h := insG_len f r (insG f a o)
  have h2 : (insG f a o).2.length ≤ a.2.length + 2 := by
   unfold insG
   split <;> simp
  rw [List.foldl_cons, List.length_cons]
  omega
theorem insG_take {l : List Frm} {j : Nat} {o : Frm} (h : l[j]? = some o) (f : Frm) (a : Bool × List Frm) : (l.take (j + 1)).foldl (insG f) a = insG f ((l.take j).foldl (insG f) a) o := by
 obtain ⟨h1, h2⟩ := List.getElem?_eq_some_iff.1 h
 rw [List.take_succ_eq_append_getElem h1, h2, List.foldl_append]
 rfl
theorem quiet_eqlF_step {ops : Array Oper} {C : World → Prop} {a : Act} {o : Oper} {rest : List Oper} {Q : Act → Prop} (x y : Operand) (h : o.op = .binOp .eql 34 x y 34) (hw : Region.wanted o (yielded ops a.tmps) = true) (f g : Frm) (hx : a.eval x = f.v) (hy : a.eval y = g.v) {b : Bool} (hb : frEq f g = b)
  (hk : wpQuiet Tryz.prog ops C Q rest (a.put o.dst (.bool b))) : wpQuiet Tryz.prog ops C Q (o :: rest) a := by
 refine BigFrame.wpQuiet_want hw fun _ hK => ⟨.bool b, fun w _ => ?_, hK _ hk⟩
 unfold Oper.quietAt execOp
 simp only [h, hx, hy, Sem.run_bind, run_guardF, run_eqlF, Result.andThen_ok, hb]
 simp only [Sem.run_pure]
 exact ⟨rfl, rfl⟩
theorem Tryz.infoFrm : (Tryz.prog.info? 34).map (fun i => (i.zero, i.size, i.bytes)) = some (some zeroF, 9, 80) := by kernel_rfl

set_option maxRecDepth 100000 in
set_option maxHeartbeats 16000000 in
theorem ins_any (w : World) (vl : Value) (l : List Frm) (f : Frm) (hv : FrmsAt w vl l) (hl : l.length ≤ 1000000) :
  Calls Tryz.prog 60 #[vl, f.v] w fun e w' => ∃ v, e = .returned v ∧ FrmsAt w' v (insFr f l) ∧ Below w.heap.size w w' := by
 have Hv := Lib.hid hv
 obtain ⟨R, hR⟩ : ∃ R, insFr f l = R := ⟨_, rfl⟩
 rw [hR]
 obtain ⟨k0, r0, s0, i0, l0, d0, p0, a0, t0⟩ := f
 have HR := Lib.hid hR
 clear hR
 obtain ⟨A, c, rfl, h1, h2, h3⟩ := hv
 have HH := Lib.hid h3
 clear h3
 unfold Frm.v frV
 dsimp only at *
 obtain ⟨wa, hwa⟩ : ∃ wa, w.alloc (.cells #[.int .i64 k0, .int .i64 r0, .int .i64 s0, .int .i64 i0, .int .i64 l0, .int .i64 d0, .int .i64 p0, .int .u32 a0, .string t0] 34) = wa := ⟨_, rfl⟩
 have ha : Blk wa w.heap.size 34 [.int .i64 k0, .int .i64 r0, .int .i64 s0, .int .i64 i0, .int .i64 l0, .int .i64 d0, .int .i64 p0, .int .u32 a0, .string t0] := hwa ▸ Blk.new w 34 [.int .i64 k0, .int .i64 r0, .int .i64 s0, .int .i64 i0, .int .i64 l0, .int .i64 d0, .int .i64 p0, .int .u32 a0, .string t0]
 have sa : wa.heap.size = w.heap.size + 1 := by rw [← hwa]; simp
 have Ba : Below w.heap.size w wa := hwa ▸ (Below.refl _ _).alloc (Nat.le_refl _) _
 obtain ⟨wz, hwz⟩ : ∃ wz, wa.alloc (.cells #[] 34) = wz := ⟨_, rfl⟩
 have hE0 : wz.ownsRow (w.heap.size + 1) 34 9 (.slice (some ⟨w.heap.size + 1, 0, none⟩) 0 0) 0 [] := by rw [← sa, ← hwz]; exact own_empty wa 34 9
 have HE0 := Lib.hid hE0
 have HC : Hid (Blk wz w.heap.size 34 [.int .i64 k0, .int .i64 r0, .int .i64 s0, .int .i64 i0, .int .i64 l0, .int .i64 d0, .int .i64 p0, .int .u32 a0, .string t0]) := Lib.hid (hwz ▸ ha.alloc _)
 have HBz : Hid (Below w.heap.size w wz) := Lib.hid (hwz ▸ Ba.alloc Ba.size _)
 have hzs : wz.heap.size = w.heap.size + 1 + 1 := by rw [← hwz]; simp [sa]
 have Hzs := Lib.hid hzs
 have hWW : (w.alloc (.cells #[.int .i64 k0, .int .i64 r0, .int .i64 s0, .int .i64 i0, .int .i64 l0, .int .i64 d0, .int .i64 p0, .int .u32 a0, .string t0] 34)).alloc (.cells #[] 34) = wz := by rw [hwa, hwz]
 obtain ⟨iF, hi, hq0, hq1, hq2⟩ := info_parts Tryz.infoFrm
 have HiF : Hid (Tryz.prog.info? 34 = some iF ∧ iF.zero = some zeroF ∧ iF.size = 9 ∧ iF.bytes = 80) := Lib.hid ⟨hi, hq0, hq1, hq2⟩
 clear hi hq0 hq1 hq2 ha sa Ba hE0 hwa hwz hzs
 go_enter Tryz.func60, Tryz.ntmps60
 go_upto_region 2 with fail
 (try rw [hWW])
 clear hWW
 go_wp2
 go_loopw [5, 6, 7] (fun v y x wr => ∃ (k : Nat) (dn : Bool) (out : List Frm), k ≤ l.length ∧ x = .int .i64 (k : Int) ∧ y = .bool dn ∧ (l.take k).foldl (insG ⟨k0, r0, s0, i0, l0, d0, p0, a0, t0⟩) (false, []) = (dn, out) ∧ ⟨k0, r0, s0, i0, l0, d0, p0, a0, t0⟩ ∉ l.take k ∧ wr.ownsRow (w.heap.size + 1) 34 9 v out.length (out.flatMap Frm.cells) ∧ Below (w.heap.size + 1) wz wr) (fun _ _ x _ => l.length - (intOf x).toNat)
 case atStart => exact ⟨0, false, [], by omega, rfl, rfl, rfl, by simp, HE0.out, Below.refl _ _⟩
 case round =>
  obtain ⟨v, rfl⟩ : ∃ x, x = u5 := ⟨_, rfl⟩
  obtain ⟨wo, rfl⟩ : ∃ x, x = wr := ⟨_, rfl⟩
  obtain ⟨k, dn, out, hk, rfl, rfl, hst, hnm, ho, hB⟩ := hrel
  clear HE0
  have HBr := Lib.hid hB
  have Ho := Lib.hid ho
  have Hst := Lib.hid hst
  have Hnm := Lib.hid hnm
  have hbs := hB.size
  have hzs := Hzs.out
  have hol : out.length ≤ 2 * k := by
   have h1 := insG_len ⟨k0, r0, s0, i0, l0, d0, p0, a0, t0⟩ (l.take k) (false, [])
   rw [hst, List.length_take] at h1
   simp at h1
   omega
  clear hB ho hst hnm
  by_cases h : k < l.length
  ·have hkI : (k : Int) < l.length := by omega
   obtain ⟨g, hg⟩ : ∃ g, l[k]? = some g := ⟨_, List.getElem?_eq_getElem h⟩
   obtain ⟨b, o, rfl, h5⟩ := HH.out k g hg
   have Hg := Lib.hid hg
   obtain ⟨k1, r1, s1, i1, l1, d1, p1, a1, t1⟩ := g
   have HE : Hid (∀ W, Below w.heap.size w W → ∀ j u, ([.int .i64 k1, .int .i64 r1, .int .i64 s1, .int .i64 i1, .int .i64 l1, .int .i64 d1, .int .i64 p1, .int .u32 a1, .string t1] : List Value)[j]? = some u → W.cell? ⟨b, o + k * 9 + j, none⟩ = some u) := Lib.hid (fun W hb j u hu => cell_below hb (h5 j u hu))
   clear h5 hg
   have c0 := HE.out _ (HBz.out.trans (HBr.out.mono (by omega))) 0 _ rfl
   have c1 := HE.out _ (HBz.out.trans (HBr.out.mono (by omega))) 1 _ rfl
   have c2 := HE.out _ (HBz.out.trans (HBr.out.mono (by omega))) 2 _ rfl
   have c3 := HE.out _ (HBz.out.trans (HBr.out.mono (by omega))) 3 _ rfl
   have c4 := HE.out _ (HBz.out.trans (HBr.out.mono (by omega))) 4 _ rfl
   have c5 := HE.out _ (HBz.out.trans (HBr.out.mono (by omega))) 5 _ rfl
   have c6 := HE.out _ (HBz.out.trans (HBr.out.mono (by omega))) 6 _ rfl
   have c7 := HE.out _ (HBz.out.trans (HBr.out.mono (by omega))) 7 _ rfl
   have c8 := HE.out _ (HBz.out.trans (HBr.out.mono (by omega))) 8 _ rfl
   rw [Nat.add_zero] at c0
   have hbx := HC.out.below HBr.out (by omega)
   have b0 := hbx.cell (i := 0) rfl
   have b1 := hbx.cell (i := 1) rfl
   have b2 := hbx.cell (i := 2) rfl
   have b3 := hbx.cell (i := 3) rfl
   have b4 := hbx.cell (i := 4) rfl
   have b5 := hbx.cell (i := 5) rfl
   have b6 := hbx.cell (i := 6) rfl
   have b7 := hbx.cell (i := 7) rfl
   have b8 := hbx.cell (i := 8) rfl
   clear hbx
   cases hq : frEq ⟨k1, r1, s1, i1, l1, d1, p1, a1, t1⟩ ⟨k0, r0, s0, i0, l0, d0, p0, a0, t0⟩ with
   | true =>
    have e := frEq_iff.1 hq
    have HX : Hid (R = l) := Lib.hid (by
     rw [← HR.out]
     unfold insFr
     rw [if_pos (by rw [← e]; exact List.mem_of_getElem? Hg.out)])
    have Hq := Lib.hid hq
    clear hq e
    go_upto_region 6 with fail
    refine wp_region_quiet_lit (by kernel_rfl) (by kernel_rfl) ?_
    repeat (go_big_quiet_step (fail))
    refine quiet_eqlF_step (.tmp 18) (.tmp 19) rfl rfl ⟨k1, r1, s1, i1, l1, d1, p1, a1, t1⟩ ⟨k0, r0, s0, i0, l0, d0, p0, a0, t0⟩ rfl rfl Hq.out ?_
    try simp only [Act.put, List.setIfInBounds_toArray, List.set_cons_zero, List.set_cons_succ]
    repeat (go_big_quiet_step (fail))
    refine wpQuiet_nil ?_
    intro _ hw'
    obtain ⟨nq, hw''⟩ := hw'
    subst hw''
    go_wp2
    go_ret
    have hbb := below_drewN (HBz.out.trans (HBr.out.mono (by omega))) nq
    exact ⟨.slice (some ⟨b, o, none⟩) l.length c, rfl, by rw [HX.out]; exact Hv.out.below hbb, hbb⟩
   | false =>
    have hne : ⟨k1, r1, s1, i1, l1, d1, p1, a1, t1⟩ ≠ (⟨k0, r0, s0, i0, l0, d0, p0, a0, t0⟩ : Frm) := fun e => by rw [frEq_iff.2 e] at hq; cases hq
    have Hnm2 : Hid (⟨k0, r0, s0, i0, l0, d0, p0, a0, t0⟩ ∉ l.take (k + 1)) := Lib.hid (by
     obtain ⟨q1, q2⟩ := List.getElem?_eq_some_iff.1 Hg.out
     rw [List.take_succ_eq_append_getElem q1, q2, List.mem_append, List.mem_singleton]
     exact fun hh => hh.elim Hnm.out (fun e => hne e.symm))
    have Hnx := Lib.hid (insG_take Hg.out ⟨k0, r0, s0, i0, l0, d0, p0, a0, t0⟩ (false, []))
    have Hq := Lib.hid hq
    clear hq hne
    go_upto_region 6 with fail
    refine wp_region_quiet_lit (by kernel_rfl) (by kernel_rfl) ?_
    repeat (go_big_quiet_step (fail))
    refine quiet_eqlF_step (.tmp 18) (.tmp 19) rfl rfl ⟨k1, r1, s1, i1, l1, d1, p1, a1, t1⟩ ⟨k0, r0, s0, i0, l0, d0, p0, a0, t0⟩ rfl rfl Hq.out ?_
    try simp only [Act.put, List.setIfInBounds_toArray, List.set_cons_zero, List.set_cons_succ]
    repeat (go_big_quiet_step (fail))
    refine wpQuiet_nil ?_
    intro _ hw'
    obtain ⟨nq, hw''⟩ := hw'
    subst hw''
    clear c0 c1 c2 c3 c4 c5 c6 c7 c8
    clear b0 b1 b2 b3 b4 b5 b6 b7 b8
    have Ho := Lib.hid (own_belowC Ho.out (below_drewN (Below.refl _ _) nq))
    have HBr := Lib.hid (below_drewN HBr.out nq)
    have hbs := HBr.out.size
    go_upto_region 8 with fail
    generalize wo.drewN nq = wo at *
    cases dn with
    | true =>
     have Hn : Hid ((l.take (k + 1)).foldl (insG ⟨k0, r0, s0, i0, l0, d0, p0, a0, t0⟩) (false, []) = (true, out ++ [⟨k1, r1, s1, i1, l1, d1, p1, a1, t1⟩])) := Lib.hid (by rw [Hnx.out, Hst.out]; rfl)
     clear Hnx Hst
     go_quiet (fail)
     have Ho := Lib.hid (own_belowC Ho.out (below_drewN (Below.refl _ _) nq))
     have HBr := Lib.hid (below_drewN HBr.out nq)
     have hbs := HBr.out.size
     generalize wo.drewN nq = wo at *
     have c0 := HE.out _ (HBz.out.trans (HBr.out.mono (by omega))) 0 _ rfl
     have c1 := HE.out _ (HBz.out.trans (HBr.out.mono (by omega))) 1 _ rfl
     have c2 := HE.out _ (HBz.out.trans (HBr.out.mono (by omega))) 2 _ rfl
     have c3 := HE.out _ (HBz.out.trans (HBr.out.mono (by omega))) 3 _ rfl
     have c4 := HE.out _ (HBz.out.trans (HBr.out.mono (by omega))) 4 _ rfl
     have c5 := HE.out _ (HBz.out.trans (HBr.out.mono (by omega))) 5 _ rfl
     have c6 := HE.out _ (HBz.out.trans (HBr.out.mono (by omega))) 6 _ rfl
     have c7 := HE.out _ (HBz.out.trans (HBr.out.mono (by omega))) 7 _ rfl
     have c8 := HE.out _ (HBz.out.trans (HBr.out.mono (by omega))) 8 _ rfl
     rw [Nat.add_zero] at c0
     have Hnewsb : Hid (∀ (j : Nat) (x : Value), ([.int .i64 k1, .int .i64 r1, .int .i64 s1, .int .i64 i1, .int .i64 l1, .int .i64 d1, .int .i64 p1, .int .u32 a1, .string t1] : List Value)[j]? = some x → (wo.alloc (.cells #[.int .i64 k1, .int .i64 r1, .int .i64 s1, .int .i64 i1, .int .i64 l1, .int .i64 d1, .int .i64 p1, .int .u32 a1, .string t1] 34)).cell? ((⟨wo.heap.size, 0, none⟩ : Addr).add j) = some x) := Lib.hid (fun j x hj => by
      rw [Addr.add_lit, Nat.zero_add]
      exact (Blk.new wo 34 [.int .i64 k1, .int .i64 r1, .int .i64 s1, .int .i64 i1, .int .i64 l1, .int .i64 d1, .int .i64 p1, .int .u32 a1, .string t1]).cell hj)
     have Honeb : Hid (∀ x ∈ ([.int .i64 k1, .int .i64 r1, .int .i64 s1, .int .i64 i1, .int .i64 l1, .int .i64 d1, .int .i64 p1, .int .u32 a1, .string t1] : List Value), x.oneCell' = true) := Lib.hid (by simp [Value.oneCell'])
     have HUb := Lib.hid (Ho.out.alloc (.cells #[.int .i64 k1, .int .i64 r1, .int .i64 s1, .int .i64 i1, .int .i64 l1, .int .i64 d1, .int .i64 p1, .int .u32 a1, .string t1] 34))
     have HBb := Lib.hid (HBr.out.alloc (by have := HBr.out.size; omega) (.cells #[.int .i64 k1, .int .i64 r1, .int .i64 s1, .int .i64 i1, .int .i64 l1, .int .i64 d1, .int .i64 p1, .int .u32 a1, .string t1] 34))
     go_wp2_with (at_builtin; refine append_atC _ rfl _ _ 49 rfl (w.heap.size + 1) 34 iF zeroF 9 80 Tryz.underlying49 HiF.out.1 HiF.out.2.1 HiF.out.2.2.1 HiF.out.2.2.2 rfl (by omega) v out.length _ rfl HUb.out ⟨wo.heap.size, 0, none⟩ 1 1 _ rfl rfl Hnewsb.out Honeb.out (by unfold maxLen; omega) (by omega) (by have := HBb.out.size; omega) ?_; intro vb wb hob hgb _; have KUb := Lib.hid hob; have KBb := Lib.hid (HBb.out.grown hgb (by have := HBb.out.size; omega) (own_geC HUb.out)); clear hob hgb)
     go_roundw
     case rel => exact ⟨k + 1, true, out ++ [⟨k1, r1, s1, i1, l1, d1, p1, a1, t1⟩], by omega, by go_num, rfl, Hn.out, Hnm2.out, by rw [List.length_append, List.flatMap_append]; exact KUb.out, KBb.out⟩
     case measure => simp [intOf]; omega
    | false =>
     have HL := Lib.hid (fun W => less_any W ⟨k0, r0, s0, i0, l0, d0, p0, a0, t0⟩ ⟨k1, r1, s1, i1, l1, d1, p1, a1, t1⟩)
     unfold Frm.v frV at HL
     dsimp only at HL
     obtain ⟨q, hq⟩ : ∃ q, lesF ⟨k0, r0, s0, i0, l0, d0, p0, a0, t0⟩ ⟨k1, r1, s1, i1, l1, d1, p1, a1, t1⟩ = q := ⟨_, rfl⟩
     rw [hq] at HL
     have Hn : Hid ((l.take (k + 1)).foldl (insG ⟨k0, r0, s0, i0, l0, d0, p0, a0, t0⟩) (false, []) = if q then (true, out ++ [⟨k0, r0, s0, i0, l0, d0, p0, a0, t0⟩] ++ [⟨k1, r1, s1, i1, l1, d1, p1, a1, t1⟩]) else (false, out ++ [⟨k1, r1, s1, i1, l1, d1, p1, a1, t1⟩])) := Lib.hid (by rw [Hnx.out, Hst.out, ← hq]; unfold insG; simp)
     clear Hnx Hst hq
     have c0 := HE.out _ (HBz.out.trans (HBr.out.mono (by omega))) 0 _ rfl
     have c1 := HE.out _ (HBz.out.trans (HBr.out.mono (by omega))) 1 _ rfl
     have c2 := HE.out _ (HBz.out.trans (HBr.out.mono (by omega))) 2 _ rfl
     have c3 := HE.out _ (HBz.out.trans (HBr.out.mono (by omega))) 3 _ rfl
     have c4 := HE.out _ (HBz.out.trans (HBr.out.mono (by omega))) 4 _ rfl
     have c5 := HE.out _ (HBz.out.trans (HBr.out.mono (by omega))) 5 _ rfl
     have c6 := HE.out _ (HBz.out.trans (HBr.out.mono (by omega))) 6 _ rfl
     have c7 := HE.out _ (HBz.out.trans (HBr.out.mono (by omega))) 7 _ rfl
     have c8 := HE.out _ (HBz.out.trans (HBr.out.mono (by omega))) 8 _ rfl
     rw [Nat.add_zero] at c0
     have hbx := HC.out.below HBr.out (by omega)
     have b0 := hbx.cell (i := 0) rfl
     have b1 := hbx.cell (i := 1) rfl
     have b2 := hbx.cell (i := 2) rfl
     have b3 := hbx.cell (i := 3) rfl
     have b4 := hbx.cell (i := 4) rfl
     have b5 := hbx.cell (i := 5) rfl
     have b6 := hbx.cell (i := 6) rfl
     have b7 := hbx.cell (i := 7) rfl
     have b8 := hbx.cell (i := 8) rfl
     clear hbx
     refine wp_region_held_drew (S := (fun W => (W.cell? ⟨w.heap.size, 0, none⟩ = some (.int .i64 k0) ∧ W.cell? ⟨w.heap.size, 1, none⟩ = some (.int .i64 r0) ∧ W.cell? ⟨w.heap.size, 2, none⟩ = some (.int .i64 s0) ∧ W.cell? ⟨w.heap.size, 3, none⟩ = some (.int .i64 i0) ∧ W.cell? ⟨w.heap.size, 4, none⟩ = some (.int .i64 l0) ∧ W.cell? ⟨w.heap.size, 5, none⟩ = some (.int .i64 d0) ∧ W.cell? ⟨w.heap.size, 6, none⟩ = some (.int .i64 p0) ∧ W.cell? ⟨w.heap.size, 7, none⟩ = some (.int .u32 a0) ∧ W.cell? ⟨w.heap.size, 8, none⟩ = some (.string t0)) ∧ W.cell? ⟨b, o + k * 9, none⟩ = some (.int .i64 k1) ∧ W.cell? ⟨b, o + k * 9 + 1, none⟩ = some (.int .i64 r1) ∧ W.cell? ⟨b, o + k * 9 + 2, none⟩ = some (.int .i64 s1) ∧ W.cell? ⟨b, o + k * 9 + 3, none⟩ = some (.int .i64 i1) ∧ W.cell? ⟨b, o + k * 9 + 4, none⟩ = some (.int .i64 l1) ∧ W.cell? ⟨b, o + k * 9 + 5, none⟩ = some (.int .i64 d1) ∧ W.cell? ⟨b, o + k * 9 + 6, none⟩ = some (.int .i64 p1) ∧ W.cell? ⟨b, o + k * 9 + 7, none⟩ = some (.int .u32 a1) ∧ W.cell? ⟨b, o + k * 9 + 8, none⟩ = some (.string t1))) (by kernel_rfl) ?_ (fun hHeld => ?_)
     ·exact ⟨⟨b0, b1, b2, b3, b4, b5, b6, b7, b8⟩, c0, c1, c2, c3, c4, c5, c6, c7, c8⟩
     refine tk 0 ?_
     refine tk 1 ?_
     refine tk 2 ?_
     refine tk 3 ?_
     refine tk 4 ?_
     refine tk 5 ?_
     refine tk 6 ?_
     refine tk 7 ?_
     refine wpAnyH_ready (rs := [8]) (by kernel_rfl) (by simp) ?_
     refine AllReadyH.cons (o := _) rfl (fun K hK => ?_) ?_
     ·go_simp
      refine (HL.out wo.drew).mono ?_
      rintro e w6 ⟨rfl, hb6⟩
      (try go_wp2_with fail)
      refine hko hK (by exact ⟨⟨cell_below hb6 b0, cell_below hb6 b1, cell_below hb6 b2, cell_below hb6 b3, cell_below hb6 b4, cell_below hb6 b5, cell_below hb6 b6, cell_below hb6 b7, cell_below hb6 b8⟩, cell_below hb6 c0, cell_below hb6 c1, cell_below hb6 c2, cell_below hb6 c3, cell_below hb6 c4, cell_below hb6 c5, cell_below hb6 c6, cell_below hb6 c7, cell_below hb6 c8⟩) (fun _ => ?_)
      clear hK K
      refine tk 9 ?_
      refine wpAnyH_done (by kernel_rfl) ?_ _
      have hbb : Below wo.heap.size wo w6 := (Below.refl _ wo).drew.trans hb6
      have Ho := Lib.hid (own_belowC Ho.out hbb)
      have HBr := Lib.hid (HBr.out.trans (hbb.mono (by omega)))
      have hbs := HBr.out.size
      clear hb6 hbb hHeld HL c0 c1 c2 c3 c4 c5 c6 c7 c8 b0 b1 b2 b3 b4 b5 b6 b7 b8
      cases q with
      | true =>
       have Hn : Hid ((l.take (k + 1)).foldl (insG ⟨k0, r0, s0, i0, l0, d0, p0, a0, t0⟩) (false, []) = (true, out ++ [⟨k0, r0, s0, i0, l0, d0, p0, a0, t0⟩] ++ [⟨k1, r1, s1, i1, l1, d1, p1, a1, t1⟩])) := Lib.hid (by rw [Hn.out, if_pos rfl])
       have hbx := HC.out.below HBr.out (by omega)
       have b0 := hbx.cell (i := 0) rfl
       have b1 := hbx.cell (i := 1) rfl
       have b2 := hbx.cell (i := 2) rfl
       have b3 := hbx.cell (i := 3) rfl
       have b4 := hbx.cell (i := 4) rfl
       have b5 := hbx.cell (i := 5) rfl
       have b6 := hbx.cell (i := 6) rfl
       have b7 := hbx.cell (i := 7) rfl
       have b8 := hbx.cell (i := 8) rfl
       clear hbx
       have Hnewsa : Hid (∀ (j : Nat) (x : Value), ([.int .i64 k0, .int .i64 r0, .int .i64 s0, .int .i64 i0, .int .i64 l0, .int .i64 d0, .int .i64 p0, .int .u32 a0, .string t0] : List Value)[j]? = some x → (w6.alloc (.cells #[.int .i64 k0, .int .i64 r0, .int .i64 s0, .int .i64 i0, .int .i64 l0, .int .i64 d0, .int .i64 p0, .int .u32 a0, .string t0] 34)).cell? ((⟨w6.heap.size, 0, none⟩ : Addr).add j) = some x) := Lib.hid (fun j x hj => by
        rw [Addr.add_lit, Nat.zero_add]
        exact (Blk.new w6 34 [.int .i64 k0, .int .i64 r0, .int .i64 s0, .int .i64 i0, .int .i64 l0, .int .i64 d0, .int .i64 p0, .int .u32 a0, .string t0]).cell hj)
       have Honea : Hid (∀ x ∈ ([.int .i64 k0, .int .i64 r0, .int .i64 s0, .int .i64 i0, .int .i64 l0, .int .i64 d0, .int .i64 p0, .int .u32 a0, .string t0] : List Value), x.oneCell' = true) := Lib.hid (by simp [Value.oneCell'])
       have HUa := Lib.hid (Ho.out.alloc (.cells #[.int .i64 k0, .int .i64 r0, .int .i64 s0, .int .i64 i0, .int .i64 l0, .int .i64 d0, .int .i64 p0, .int .u32 a0, .string t0] 34))
       have HBa := Lib.hid (HBr.out.alloc (by have := HBr.out.size; omega) (.cells #[.int .i64 k0, .int .i64 r0, .int .i64 s0, .int .i64 i0, .int .i64 l0, .int .i64 d0, .int .i64 p0, .int .u32 a0, .string t0] 34))
       go_upto_region 11 with (at_builtin; refine append_atC _ rfl _ _ 49 rfl (w.heap.size + 1) 34 iF zeroF 9 80 Tryz.underlying49 HiF.out.1 HiF.out.2.1 HiF.out.2.2.1 HiF.out.2.2.2 rfl (by omega) v out.length _ rfl HUa.out ⟨w6.heap.size, 0, none⟩ 1 1 _ rfl rfl Hnewsa.out Honea.out (by unfold maxLen; omega) (by omega) (by have := HBa.out.size; omega) ?_; intro va wa hob hgb _; have KUa := Lib.hid hob; have KBa := Lib.hid (HBa.out.grown hgb (by have := HBa.out.size; omega) (own_geC HUa.out)); clear hob hgb)
       clear b0 b1 b2 b3 b4 b5 b6 b7 b8
       have hba := KBa.out.size
       have c0 := HE.out _ (HBz.out.trans (KBa.out.mono (by omega))) 0 _ rfl
       have c1 := HE.out _ (HBz.out.trans (KBa.out.mono (by omega))) 1 _ rfl
       have c2 := HE.out _ (HBz.out.trans (KBa.out.mono (by omega))) 2 _ rfl
       have c3 := HE.out _ (HBz.out.trans (KBa.out.mono (by omega))) 3 _ rfl
       have c4 := HE.out _ (HBz.out.trans (KBa.out.mono (by omega))) 4 _ rfl
       have c5 := HE.out _ (HBz.out.trans (KBa.out.mono (by omega))) 5 _ rfl
       have c6 := HE.out _ (HBz.out.trans (KBa.out.mono (by omega))) 6 _ rfl
       have c7 := HE.out _ (HBz.out.trans (KBa.out.mono (by omega))) 7 _ rfl
       have c8 := HE.out _ (HBz.out.trans (KBa.out.mono (by omega))) 8 _ rfl
       rw [Nat.add_zero] at c0
       have Hnewsb : Hid (∀ (j : Nat) (x : Value), ([.int .i64 k1, .int .i64 r1, .int .i64 s1, .int .i64 i1, .int .i64 l1, .int .i64 d1, .int .i64 p1, .int .u32 a1, .string t1] : List Value)[j]? = some x → (wa.alloc (.cells #[.int .i64 k1, .int .i64 r1, .int .i64 s1, .int .i64 i1, .int .i64 l1, .int .i64 d1, .int .i64 p1, .int .u32 a1, .string t1] 34)).cell? ((⟨wa.heap.size, 0, none⟩ : Addr).add j) = some x) := Lib.hid (fun j x hj => by
        rw [Addr.add_lit, Nat.zero_add]
        exact (Blk.new wa 34 [.int .i64 k1, .int .i64 r1, .int .i64 s1, .int .i64 i1, .int .i64 l1, .int .i64 d1, .int .i64 p1, .int .u32 a1, .string t1]).cell hj)
       have Honeb : Hid (∀ x ∈ ([.int .i64 k1, .int .i64 r1, .int .i64 s1, .int .i64 i1, .int .i64 l1, .int .i64 d1, .int .i64 p1, .int .u32 a1, .string t1] : List Value), x.oneCell' = true) := Lib.hid (by simp [Value.oneCell'])
       have HUb := Lib.hid (KUa.out.alloc (.cells #[.int .i64 k1, .int .i64 r1, .int .i64 s1, .int .i64 i1, .int .i64 l1, .int .i64 d1, .int .i64 p1, .int .u32 a1, .string t1] 34))
       have HBb := Lib.hid (KBa.out.alloc (by have := KBa.out.size; omega) (.cells #[.int .i64 k1, .int .i64 r1, .int .i64 s1, .int .i64 i1, .int .i64 l1, .int .i64 d1, .int .i64 p1, .int .u32 a1, .string t1] 34))
       go_wp2_with (at_builtin; refine append_atC _ rfl _ _ 49 rfl (w.heap.size + 1) 34 iF zeroF 9 80 Tryz.underlying49 HiF.out.1 HiF.out.2.1 HiF.out.2.2.1 HiF.out.2.2.2 rfl (by omega) va (out.length + 1) _ rfl HUb.out ⟨wa.heap.size, 0, none⟩ 1 1 _ rfl rfl Hnewsb.out Honeb.out (by unfold maxLen; omega) (by omega) (by have := HBb.out.size; omega) ?_; intro vb wb hob hgb _; have KUb := Lib.hid hob; have KBb := Lib.hid (HBb.out.grown hgb (by have := HBb.out.size; omega) (own_geC HUb.out)); clear hob hgb)
       go_roundw
       case rel => exact ⟨k + 1, true, out ++ [⟨k0, r0, s0, i0, l0, d0, p0, a0, t0⟩] ++ [⟨k1, r1, s1, i1, l1, d1, p1, a1, t1⟩], by omega, by go_num, rfl, Hn.out, Hnm2.out, by rw [List.length_append, List.length_append, List.flatMap_append, List.flatMap_append]; exact KUb.out, KBb.out⟩
       case measure => simp [intOf]; omega
      | false =>
       have Hn : Hid ((l.take (k + 1)).foldl (insG ⟨k0, r0, s0, i0, l0, d0, p0, a0, t0⟩) (false, []) = (false, out ++ [⟨k1, r1, s1, i1, l1, d1, p1, a1, t1⟩])) := Lib.hid (by rw [Hn.out, if_neg (by simp)])
       have c0 := HE.out _ (HBz.out.trans (HBr.out.mono (by omega))) 0 _ rfl
       have c1 := HE.out _ (HBz.out.trans (HBr.out.mono (by omega))) 1 _ rfl
       have c2 := HE.out _ (HBz.out.trans (HBr.out.mono (by omega))) 2 _ rfl
       have c3 := HE.out _ (HBz.out.trans (HBr.out.mono (by omega))) 3 _ rfl
       have c4 := HE.out _ (HBz.out.trans (HBr.out.mono (by omega))) 4 _ rfl
       have c5 := HE.out _ (HBz.out.trans (HBr.out.mono (by omega))) 5 _ rfl
       have c6 := HE.out _ (HBz.out.trans (HBr.out.mono (by omega))) 6 _ rfl
       have c7 := HE.out _ (HBz.out.trans (HBr.out.mono (by omega))) 7 _ rfl
       have c8 := HE.out _ (HBz.out.trans (HBr.out.mono (by omega))) 8 _ rfl
       rw [Nat.add_zero] at c0
       have Hnewsb : Hid (∀ (j : Nat) (x : Value), ([.int .i64 k1, .int .i64 r1, .int .i64 s1, .int .i64 i1, .int .i64 l1, .int .i64 d1, .int .i64 p1, .int .u32 a1, .string t1] : List Value)[j]? = some x → (w6.alloc (.cells #[.int .i64 k1, .int .i64 r1, .int .i64 s1, .int .i64 i1, .int .i64 l1, .int .i64 d1, .int .i64 p1, .int .u32 a1, .string t1] 34)).cell? ((⟨w6.heap.size, 0, none⟩ : Addr).add j) = some x) := Lib.hid (fun j x hj => by
        rw [Addr.add_lit, Nat.zero_add]
        exact (Blk.new w6 34 [.int .i64 k1, .int .i64 r1, .int .i64 s1, .int .i64 i1, .int .i64 l1, .int .i64 d1, .int .i64 p1, .int .u32 a1, .string t1]).cell hj)
       have Honeb : Hid (∀ x ∈ ([.int .i64 k1, .int .i64 r1, .int .i64 s1, .int .i64 i1, .int .i64 l1, .int .i64 d1, .int .i64 p1, .int .u32 a1, .string t1] : List Value), x.oneCell' = true) := Lib.hid (by simp [Value.oneCell'])
       have HUb := Lib.hid (Ho.out.alloc (.cells #[.int .i64 k1, .int .i64 r1, .int .i64 s1, .int .i64 i1, .int .i64 l1, .int .i64 d1, .int .i64 p1, .int .u32 a1, .string t1] 34))
       have HBb := Lib.hid (HBr.out.alloc (by have := HBr.out.size; omega) (.cells #[.int .i64 k1, .int .i64 r1, .int .i64 s1, .int .i64 i1, .int .i64 l1, .int .i64 d1, .int .i64 p1, .int .u32 a1, .string t1] 34))
       go_wp2_with (at_builtin; refine append_atC _ rfl _ _ 49 rfl (w.heap.size + 1) 34 iF zeroF 9 80 Tryz.underlying49 HiF.out.1 HiF.out.2.1 HiF.out.2.2.1 HiF.out.2.2.2 rfl (by omega) v out.length _ rfl HUb.out ⟨w6.heap.size, 0, none⟩ 1 1 _ rfl rfl Hnewsb.out Honeb.out (by unfold maxLen; omega) (by omega) (by have := HBb.out.size; omega) ?_; intro vb wb hob hgb _; have KUb := Lib.hid hob; have KBb := Lib.hid (HBb.out.grown hgb (by have := HBb.out.size; omega) (own_geC HUb.out)); clear hob hgb)
       go_roundw
       case rel => exact ⟨k + 1, false, out ++ [⟨k1, r1, s1, i1, l1, d1, p1, a1, t1⟩], by omega, by go_num, rfl, Hn.out, Hnm2.out, by rw [List.length_append, List.flatMap_append]; exact KUb.out, KBb.out⟩
       case measure => simp [intOf]; omega
     exact AllReadyH.nil
  ·obtain rfl : k = l.length := by omega
   have hkI : ¬ (l.length : Int) < l.length := by omega
   have HX : Hid (R = if dn then out else out ++ [⟨k0, r0, s0, i0, l0, d0, p0, a0, t0⟩]) := Lib.hid (by
    have h1 := Hst.out
    have h2 := Hnm.out
    rw [List.take_length] at h1 h2
    rw [← HR.out]
    unfold insFr
    rw [if_neg h2, h1])
   clear Hst Hnm HR
   cases dn with
   | true =>
    go_wp2
    go_ret
    have e : R = out := by simpa using HX.out
    exact ⟨v, rfl, by rw [e]; exact FrmsAt.of_own Ho.out, (HBz.out.trans (HBr.out.mono (by omega)))⟩
   | false =>
    have hbx := HC.out.below HBr.out (by omega)
    have b0 := hbx.cell (i := 0) rfl
    have b1 := hbx.cell (i := 1) rfl
    have b2 := hbx.cell (i := 2) rfl
    have b3 := hbx.cell (i := 3) rfl
    have b4 := hbx.cell (i := 4) rfl
    have b5 := hbx.cell (i := 5) rfl
    have b6 := hbx.cell (i := 6) rfl
    have b7 := hbx.cell (i := 7) rfl
    have b8 := hbx.cell (i := 8) rfl
    clear hbx
    have Hnewsa : Hid (∀ (j : Nat) (x : Value), ([.int .i64 k0, .int .i64 r0, .int .i64 s0, .int .i64 i0, .int .i64 l0, .int .i64 d0, .int .i64 p0, .int .u32 a0, .string t0] : List Value)[j]? = some x → (wo.alloc (.cells #[.int .i64 k0, .int .i64 r0, .int .i64 s0, .int .i64 i0, .int .i64 l0, .int .i64 d0, .int .i64 p0, .int .u32 a0, .string t0] 34)).cell? ((⟨wo.heap.size, 0, none⟩ : Addr).add j) = some x) := Lib.hid (fun j x hj => by
     rw [Addr.add_lit, Nat.zero_add]
     exact (Blk.new wo 34 [.int .i64 k0, .int .i64 r0, .int .i64 s0, .int .i64 i0, .int .i64 l0, .int .i64 d0, .int .i64 p0, .int .u32 a0, .string t0]).cell hj)
    have Honea : Hid (∀ x ∈ ([.int .i64 k0, .int .i64 r0, .int .i64 s0, .int .i64 i0, .int .i64 l0, .int .i64 d0, .int .i64 p0, .int .u32 a0, .string t0] : List Value), x.oneCell' = true) := Lib.hid (by simp [Value.oneCell'])
    have HUa := Lib.hid (Ho.out.alloc (.cells #[.int .i64 k0, .int .i64 r0, .int .i64 s0, .int .i64 i0, .int .i64 l0, .int .i64 d0, .int .i64 p0, .int .u32 a0, .string t0] 34))
    have HBa := Lib.hid (HBr.out.alloc (by have := HBr.out.size; omega) (.cells #[.int .i64 k0, .int .i64 r0, .int .i64 s0, .int .i64 i0, .int .i64 l0, .int .i64 d0, .int .i64 p0, .int .u32 a0, .string t0] 34))
    go_wp2_with (at_builtin; refine append_atC _ rfl _ _ 49 rfl (w.heap.size + 1) 34 iF zeroF 9 80 Tryz.underlying49 HiF.out.1 HiF.out.2.1 HiF.out.2.2.1 HiF.out.2.2.2 rfl (by omega) v out.length _ rfl HUa.out ⟨wo.heap.size, 0, none⟩ 1 1 _ rfl rfl Hnewsa.out Honea.out (by unfold maxLen; omega) (by omega) (by have := HBa.out.size; omega) ?_; intro va wa hob hgb _; have KUa := Lib.hid hob; have KBa := Lib.hid (HBa.out.grown hgb (by have := HBa.out.size; omega) (own_geC HUa.out)); clear hob hgb)
    go_ret
    have hba := KBa.out.size
    have hown := KUa.out
    have e : R = out ++ [⟨k0, r0, s0, i0, l0, d0, p0, a0, t0⟩] := by simpa using HX.out
    exact ⟨va, rfl, by rw [e]; exact FrmsAt.of_own (B := w.heap.size + 1) (by rw [List.length_append, List.flatMap_append]; exact hown), (HBz.out.trans (KBa.out.mono (by omega)))⟩
end Go.Proofs.YtnlnmfkmbpihhaaGreatDoor
