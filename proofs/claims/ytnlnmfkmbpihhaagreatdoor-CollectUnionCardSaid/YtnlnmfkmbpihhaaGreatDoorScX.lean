/-
 WALK: steleref14.Pieces.
-/
import Derived.Test.YtnlnmfkmbpihhaaGreatDoorScXp
import Derived.Test.YtnlnmfkmbpihhaaGreatDoorScR
import Derived.Maps.AppendAt
namespace Go.Proofs.YtnlnmfkmbpihhaaGreatDoor
open Go.RowKit Go.Shelf
section
variable {P : Program}
/-- append to a row of the call's own; where the longer row lies. -/
theorem wpList_append_at {ops : Array Oper} {rest : List Oper} {o : Oper} {a : Act} {Q : Exit → Act → World → Prop} (w : World) (hgd : o.guard = none) (s x : Operand) (t : TypeId) (ho : o.op = .call { callee := .builtin .append, args := #[s, x], argTypes := #[t, t] })
  (base : Nat) (e : TypeId) (i : TypeInfo) (z : Value) (size bytes : Nat) (ht : P.underlying t = some (.slice e)) (hi : P.info? e = some i) (hz : i.zero = some z) (hsize : i.size = size) (hby : i.bytes = bytes) (hzs : z.cells.size = size) (hsz : 0 < size)
  (v : Value) (n : Nat) (xs : List Value) (hs : a.eval s = v) (hown : w.ownsRow base e size v n xs) (ad : Addr) (m c : Nat) (news : List Value) (hx : a.eval x = .slice (some ad) m c) (hl : news.length = m * size)
  (hnews : ∀ j u, news[j]? = some u → w.cell? (ad.add j) = some u) (h1 : ∀ u ∈ news, u.oneCell' = true) (h63 : n + m ≤ maxLen) (hbytes : (n + m) * bytes ≤ 140737488355328) (hbase : base ≤ w.heap.size)
  (h : ∀ v' w', w'.ownsRow base e size v' (n + m) (xs ++ news) → w.grownBy w' v.ownBlock → (v'.ownBlock = v.ownBlock ∨ v'.ownBlock = some w.heap.size) → wpList P ops Q rest (a.put o.dst v') w') : wpList P ops Q (o :: rest) a w := by
 obtain ⟨v', w', hr, g1, g2, _, g3⟩ := run_append_own_at (P := P) w base t o.type e i z size bytes ht hi hz hsize hby hzs hsz v n xs hown ad m c news hl hnews h1 h63 hbytes hbase
 refine wpList_plain hgd fun K hK => ?_
 unfold Oper.wp execOp
 simp only [ho, resolve, invoke, builtin, Sem.run_bind, Sem.run_pure, Result.andThen_ok, List.map_toArray, List.map_cons, List.map_nil, hs, hx, hr]
 exact hK _ _ (h v' w' g1 g2 g3)
end
theorem own_putB {w w' : World} {B n size : Nat} {t : TypeId} {v : Value} {xs : List Value} {row : Option Nat} (h : w.ownsRow B t size v n xs) (hg : w.grownBy w' row) (hne : ∀ k, v.ownBlock = some k → row ≠ some k) : w'.ownsRow B t size v n xs := by
 refine ⟨h.1, h.2.imp id fun ⟨g, cap, cur, e, hB, hh, r⟩ => ⟨g, cap, cur, e, hB, (hg.block g (Array.getElem?_eq_some_iff.1 hh).1 (fun e2 => hne g (by rw [e]; rfl) e2.symm)).trans hh, r⟩⟩

theorem ne_after {w : World} {v v' : Value} {g B n size cap : Nat} {t : TypeId} {xs : List Value} (h : w.ownsRow B t size (.slice (some ⟨g, 0, none⟩) n cap) n xs) (hne : ∀ j, v.ownBlock = some j → j ≠ g) (hat : v'.ownBlock = v.ownBlock ∨ v'.ownBlock = some w.heap.size) :
  ∀ j, v'.ownBlock = some j → (Value.slice (some ⟨g, 0, none⟩) n cap).ownBlock ≠ some j := fun j hj e => by
 have hg := (h.lt g rfl).2
 have e2 : g = j := by simpa [Value.ownBlock] using e
 subst e2
 rcases hat with h6 | h6
 ·exact hne g (h6.symm.trans hj) rfl
 ·have h7 := h6.symm.trans hj
  simp only [Option.some.injEq] at h7
  omega
theorem flat_get : ∀ (ys : List Sgt) (i : Nat) {x : Sgt}, ys[i]? = some x → ∀ j, j < 14 → (ys.flatMap Sgt.cells)[i * 14 + j]? = x.cells[j]?
 | [], _, _, h, _, _ => by cases h
 | y :: r, 0, x, h, j, hj => by
  cases h
  rw [List.flatMap_cons, List.getElem?_append_left (by rw [Sgt.cells_len]; omega), Nat.zero_mul, Nat.zero_add]
 | y :: r, i + 1, x, h, j, hj => by
  rw [List.flatMap_cons, List.getElem?_append_right (by rw [Sgt.cells_len]; omega), Sgt.cells_len, show (i + 1) * 14 + j - 14 = i * 14 + j by omega]
  exact flat_get r i h j hj
theorem flat_set (k : Nat) : ∀ (ys : List Sgt) (i : Nat) {x : Sgt}, ys[i]? = some x → (ys.flatMap Sgt.cells).set (i * 14) (.int .i64 (k : Int)) = (ys.set i (setP k x)).flatMap Sgt.cells
 | [], _, _, h => by cases h
 | y :: r, 0, x, h => by
  cases h
  rfl
 | y :: r, i + 1, x, h => by
  rw [List.flatMap_cons, List.set_append_right _ _ (by rw [Sgt.cells_len]; omega), Sgt.cells_len, show (i + 1) * 14 - 14 = i * 14 by omega, flat_set k r i h, List.set_cons_succ, List.flatMap_cons]
/-- Sightings of which the first i have got their piece's number. -/
def mixP (k i : Nat) (xs : List Sgt) : List Sgt := (xs.take i).map (setP k) ++ xs.drop i
theorem mixP_get {k i : Nat} {xs : List Sgt} {x : Sgt} (h : xs[i]? = some x) : (mixP k i xs)[i]? = some x := by
 have hi := (List.getElem?_eq_some_iff.1 h).1
 unfold mixP
 rw [List.getElem?_append_right (by rw [List.length_map, List.length_take]; omega), List.length_map, List.length_take, Nat.min_eq_left (by omega), Nat.sub_self, List.getElem?_drop, Nat.add_zero]
 exact h
theorem mixP_set {k i : Nat} {xs : List Sgt} {x : Sgt} (h : xs[i]? = some x) : (mixP k i xs).set i (setP k x) = mixP k (i + 1) xs := by
 obtain ⟨hi, hx⟩ := List.getElem?_eq_some_iff.1 h
 unfold mixP
 rw [List.set_append_right _ _ (by rw [List.length_map, List.length_take]; omega), List.length_map, List.length_take, Nat.min_eq_left (by omega), Nat.sub_self, List.take_succ_eq_append_getElem hi, List.map_append, hx, List.append_assoc,
  List.drop_eq_getElem_cons hi, List.set_cons_zero]
 rfl
theorem mixP_zero (k : Nat) (xs : List Sgt) : mixP k 0 xs = xs := rfl

set_option maxRecDepth 100000 in
set_option maxHeartbeats 16000000 in
theorem rpieces_any (w : World) (vl : Value) (ss : List ByteArray) (hv : StrvAt w vl ss) (hl : ss.length ≤ 1000000) (hs : ∀ s ∈ ss, s.size ≤ 900000) :
  Calls Tryz.prog 20 #[vl] w fun e w' => ∃ v, e = .returned v ∧ SgtsAt w' v (piecesL 0 ss) ∧ Below w.heap.size w w' := by
 have Hv := Lib.hid hv
 have Hs := Lib.hid hs
 obtain ⟨A, cv, rfl, hv1⟩ := hv
 clear hv1 hs
 have HK0 : Hid ((w.alloc (.cells #[] 38)).ownsRow w.heap.size 38 14 (.slice (some ⟨w.heap.size, 0, none⟩) 0 0) 0 []) := Lib.hid (own_empty w 38 14)
 have HA0 := Lib.hid ((Below.refl w.heap.size w).alloc (Nat.le_refl _) (.cells #[] 38))
 obtain ⟨i0, hi, hz0, hz1, hz2⟩ := info_parts Tryz.infoSight
 have Hinfo : Hid (Tryz.prog.info? 38 = some i0 ∧ i0.zero = some (.agg zero14.toArray) ∧ i0.size = 14 ∧ i0.bytes = 120) := Lib.hid ⟨hi, hz0, hz1, hz2⟩
 clear hi hz0 hz1 hz2
 go_enter Tryz.func20, Tryz.ntmps20
 go_wp2
 go_loopw [3, 4] (fun v n wr => ∃ k : Nat, k ≤ ss.length ∧ n = .int .i64 (k : Int) ∧ wr.ownsRow w.heap.size 38 14 v (piecesL 0 (ss.take k)).length ((piecesL 0 (ss.take k)).flatMap Sgt.cells) ∧ Below w.heap.size w wr) (fun _ n _ => ss.length - (intOf n).toNat)
 case atStart => exact ⟨0, by omega, rfl, HK0.out, HA0.out⟩
 case round =>
  obtain ⟨v, rfl⟩ : ∃ x, x = u3 := ⟨_, rfl⟩
  obtain ⟨wo, rfl⟩ : ∃ x, x = wr := ⟨_, rfl⟩
  obtain ⟨k, hk, rfl, ho, hB⟩ := hrel
  clear HK0 HA0
  have Ho := Lib.hid ho
  have HBr := Lib.hid hB
  clear ho hB
  by_cases h : k < ss.length
  ·have hkI : (k : Int) < ss.length := by omega
   obtain ⟨s, hf⟩ : ∃ s, ss[k]? = some s := ⟨_, List.getElem?_eq_getElem h⟩
   have hsz := Hs.out s (List.mem_of_getElem? hf)
   obtain ⟨_, _, e9, h4⟩ := Hv.out.below HBr.out
   cases e9
   obtain ⟨bb, o, rfl, hc⟩ := h4 k s hf
   have Hsn := Lib.hid (piecesL_snoc hf)
   have hpk : (piecesL 0 (ss.take k)).length ≤ 900000 * k := by
    have h1 := piecesL_len (ss.take k) 0 fun x hx => Hs.out x (List.mem_of_mem_take hx)
    rw [List.length_take, Nat.min_eq_left hk] at h1
    exact h1
   obtain ⟨base, hbase⟩ : ∃ base, piecesL 0 (ss.take k) = base := ⟨_, rfl⟩
   rw [hbase] at Ho hpk Hsn
   have HP := Lib.hid (fun W => rpiece_own W s hsz)
   have hxl : (scanL s 0).length ≤ 900000 := by have := scanL_len s _ 0 rfl; omega
   clear h4 hf hbase
   generalize scanL s 0 = xs at *
   go_upto_region 6 with (go_at_call 21; refine (HP.out _).mono ?_; rintro e w1 ⟨vf, rfl, hf1, hb1⟩)
   have Hf1 := Lib.hid hf1
   have Ho1 := Lib.hid (own_belowN Ho.out hb1)
   have HB1 := Lib.hid (HBr.out.trans (hb1.mono HBr.out.size))
   have hne1 : ∀ j, v.ownBlock = some j → vf.ownBlock ≠ some j := fun j hj e2 => by
    have q1 := (Ho.out.lt j hj).2
    have q2 := (hf1.lt j e2).1
    omega
   have Hne1 := Lib.hid hne1
   have hBw := HBr.out.size
   have hfin : ∃ A n c, vf = .slice A n c ∧ n = xs.length := by
    rcases hf1.2 with ⟨rfl, h0⟩ | ⟨g, cap, _, rfl, _⟩
    ·exact ⟨_, _, _, rfl, h0.symm⟩
    ·exact ⟨_, _, _, rfl, rfl⟩
   obtain ⟨Af, nf, cf, rfl, rfl⟩ := hfin
   clear hc hf1 hb1 hne1 HP Ho HBr
   go_wp2
   go_loopw [3, 6] (fun u n wx => ∃ i : Nat, i ≤ xs.length ∧ n = .int .i64 (i : Int) ∧ wx.ownsRow w.heap.size 38 14 u (base.length + i) ((base ++ (xs.take i).map (setP k)).flatMap Sgt.cells) ∧ wx.ownsRow wo.heap.size 38 14 (.slice Af xs.length cf) xs.length ((mixP k i xs).flatMap Sgt.cells) ∧ (∀ j, u.ownBlock = some j → (Value.slice Af xs.length cf).ownBlock ≠ some j) ∧ Below w.heap.size w wx) (fun _ n _ => xs.length - (intOf n).toNat)
   case atStart => exact ⟨0, by omega, rfl, by simpa using Ho1.out, Hf1.out, Hne1.out, HB1.out⟩
   case round =>
    obtain ⟨u, rfl⟩ : ∃ x, x = u3 := ⟨_, rfl⟩
    obtain ⟨wx, rfl⟩ : ∃ x, x = wr := ⟨_, rfl⟩
    obtain ⟨i, hi, rfl, ho, hg, hne, hB⟩ := hrel
    clear Ho1 Hf1 Hne1 HB1
    by_cases hi2 : i < xs.length
    ·have hiI : (i : Int) < xs.length := by omega
     obtain ⟨X, hX⟩ : ∃ X, xs[i]? = some X := ⟨_, List.getElem?_eq_getElem hi2⟩
     obtain ⟨g, cap, e1⟩ : ∃ g cap, Value.slice Af xs.length cf = .slice (some ⟨g, 0, none⟩) xs.length cap := by
      rcases hg.2 with ⟨e, h0⟩ | ⟨g, cap, _, e, _⟩
      ·omega
      ·exact ⟨g, cap, e⟩
     rw [e1] at hg hne
     simp only [Value.slice.injEq] at e1
     obtain ⟨rfl, _, rfl⟩ := e1
     have hst := hg.stored (i * 14) (.int .i64 (k : Int))
     rw [flat_set k _ i (mixP_get hX), mixP_set hX] at hst
     have hfr := hg.frozenAt (i * 14)
     have hgl := (hg.lt g rfl).1
     have hgl2 : w.heap.size ≤ g := by omega
     have hne2 : ∀ j, u.ownBlock = some j → j ≠ g := fun j hj e => hne j hj (by rw [e]; rfl)
     have ho2 := own_far (p := ⟨g, i * 14, none⟩) ho hne2 (.int .i64 (k : Int))
     have hB2 := hB.setCell (p := ⟨g, i * 14, none⟩) hgl2 (.int .i64 (k : Int))
     have hst2 := hst.1
     have hgx : (mixP k (i + 1) xs)[i]? = some (setP k X) := by
      rw [← mixP_set hX]
      exact List.getElem?_set_self (by have := (List.getElem?_eq_some_iff.1 (mixP_get (k := k) hX)).1; exact this)
     have hcl : ∀ (j : Nat) (x : Value), (setP k X).cells[j]? = some x → (wx.setCell ⟨g, i * 14, none⟩ (.int .i64 (k : Int))).cell? ⟨g, i * 14 + j, none⟩ = some x := fun j x hx => by
      have hj := (List.getElem?_eq_some_iff.1 hx).1
      rw [Sgt.cells_len] at hj
      rw [hst2.cellAt (i * 14 + j) (by omega), flat_get _ i hgx j hj, hx]
     have hnb : base.length + i + 1 ≤ 900000 * k + 900001 := by omega
     have HX2 : Hid ((base ++ (xs.take (i + 1)).map (setP k)).flatMap Sgt.cells = (base ++ (xs.take i).map (setP k)).flatMap Sgt.cells ++ (setP k X).cells) := Lib.hid (by
      obtain ⟨h1, h2⟩ := List.getElem?_eq_some_iff.1 hX
      rw [List.take_succ_eq_append_getElem h1, h2, List.map_append, ← List.append_assoc, List.flatMap_append]
      simp)
     obtain ⟨pc, at_, ⟨k0, r, q, c, l1, d, p, a, t⟩, ⟨x, y, z⟩⟩ := X
     change Hid (_ = _ ++ ([.int .i64 (k : Int), .int .i64 (at_ : Int), .int .i64 k0, .int .i64 r, .int .i64 q, .int .i64 c, .int .i64 l1, .int .i64 d, .int .i64 p, .int .u32 a, .string t, .int .i64 x, .int .i64 y, .int .i64 z] : List Value)) at HX2
     have HC := Lib.hid hcl
     have HO2 := Lib.hid ho2
     have HS2 := Lib.hid hst2
     have HB2 := Lib.hid hB2
     have Hne2 := Lib.hid hne2
     have c00 : ∃ x, wx.cell? ⟨g, i * 14, none⟩ = some x := ⟨_, by rw [hg.cellAt (i * 14) (by omega)]; exact flat_get _ i (mixP_get hX) 0 (by omega)⟩
     obtain ⟨x00, c00⟩ := c00
     clear hst hg ho hne hB hgl hX ho2 hst2 hcl hgx hB2 hne2
     go_upto_region 10 with fail
     clear hfr c00
     have hBx := HB2.out.size
     generalize wx.setCell ⟨g, i * 14, none⟩ (.int .i64 (k : Int)) = wy at *
     have c0 := HC.out 0 _ rfl
     have c1 := HC.out 1 _ rfl
     have c2 := HC.out 2 _ rfl
     have c3 := HC.out 3 _ rfl
     have c4 := HC.out 4 _ rfl
     have c5 := HC.out 5 _ rfl
     have c6 := HC.out 6 _ rfl
     have c7 := HC.out 7 _ rfl
     have c8 := HC.out 8 _ rfl
     have c9 := HC.out 9 _ rfl
     have c10 := HC.out 10 _ rfl
     have c11 := HC.out 11 _ rfl
     have c12 := HC.out 12 _ rfl
     have c13 := HC.out 13 _ rfl
     dsimp only [setP] at c0 c1 c2 c3 c4 c5 c6 c7 c8 c9 c10 c11 c12 c13
     rw [Nat.add_zero] at c0
     have hnew := Blk.new wy 38 [.int .i64 (k : Int), .int .i64 (at_ : Int), .int .i64 k0, .int .i64 r, .int .i64 q, .int .i64 c, .int .i64 l1, .int .i64 d, .int .i64 p, .int .u32 a, .string t, .int .i64 x, .int .i64 y, .int .i64 z]
     change Blk (wy.alloc (.cells #[.int .i64 (k : Int), .int .i64 (at_ : Int), .int .i64 k0, .int .i64 r, .int .i64 q, .int .i64 c, .int .i64 l1, .int .i64 d, .int .i64 p, .int .u32 a, .string t, .int .i64 x, .int .i64 y, .int .i64 z] 38)) _ _ _ at hnew
     have Hnews : Hid (∀ (j : Nat) (u : Value), ([.int .i64 (k : Int), .int .i64 (at_ : Int), .int .i64 k0, .int .i64 r, .int .i64 q, .int .i64 c, .int .i64 l1, .int .i64 d, .int .i64 p, .int .u32 a, .string t, .int .i64 x, .int .i64 y, .int .i64 z] : List Value)[j]? = some u → (wy.alloc (.cells #[.int .i64 (k : Int), .int .i64 (at_ : Int), .int .i64 k0, .int .i64 r, .int .i64 q, .int .i64 c, .int .i64 l1, .int .i64 d, .int .i64 p, .int .u32 a, .string t, .int .i64 x, .int .i64 y, .int .i64 z] 38)).cell? ((⟨wy.heap.size, 0, none⟩ : Addr).add j) = some u) := Lib.hid (fun j u hj => by
      rw [Addr.add_lit, Nat.zero_add]
      exact hnew.cell hj)
     have Hone : Hid (∀ u ∈ ([.int .i64 (k : Int), .int .i64 (at_ : Int), .int .i64 k0, .int .i64 r, .int .i64 q, .int .i64 c, .int .i64 l1, .int .i64 d, .int .i64 p, .int .u32 a, .string t, .int .i64 x, .int .i64 y, .int .i64 z] : List Value), u.oneCell' = true) := Lib.hid (by simp [Value.oneCell'])
     have Ho3 := Lib.hid (HO2.out.alloc (.cells #[.int .i64 (k : Int), .int .i64 (at_ : Int), .int .i64 k0, .int .i64 r, .int .i64 q, .int .i64 c, .int .i64 l1, .int .i64 d, .int .i64 p, .int .u32 a, .string t, .int .i64 x, .int .i64 y, .int .i64 z] 38))
     have HS3 := Lib.hid (HS2.out.alloc (.cells #[.int .i64 (k : Int), .int .i64 (at_ : Int), .int .i64 k0, .int .i64 r, .int .i64 q, .int .i64 c, .int .i64 l1, .int .i64 d, .int .i64 p, .int .u32 a, .string t, .int .i64 x, .int .i64 y, .int .i64 z] 38))
     have HB3 := Lib.hid (HB2.out.alloc hBx (.cells #[.int .i64 (k : Int), .int .i64 (at_ : Int), .int .i64 k0, .int .i64 r, .int .i64 q, .int .i64 c, .int .i64 l1, .int .i64 d, .int .i64 p, .int .u32 a, .string t, .int .i64 x, .int .i64 y, .int .i64 z] 38))
     clear hnew HC
     go_wp2_with (at_builtin; refine wpList_append_at _ rfl _ _ 28 rfl w.heap.size 38 i0 (.agg zero14.toArray) 14 120 Tryz.underlying28 Hinfo.out.1 Hinfo.out.2.1 Hinfo.out.2.2.1 Hinfo.out.2.2.2 rfl (by omega) u (base.length + i) _ rfl Ho3.out ⟨wy.heap.size, 0, none⟩ 1 1 _ rfl rfl Hnews.out Hone.out (by unfold maxLen; omega) (by omega) HB3.out.size ?_; intro v' w6 hown6 hgr6 hat6; have Ho6 := Lib.hid hown6; have HS6 := Lib.hid (own_putB HS3.out hgr6 (fun j hj e => by cases hj; exact Hne2.out _ e rfl)); have HB6 := Lib.hid (HB3.out.grown hgr6 HB3.out.size (own_geN Ho3.out)); have HN6 := Lib.hid (ne_after HS3.out Hne2.out hat6); clear hown6 hgr6 hat6)
     go_roundw
     case rel =>
      refine ⟨i + 1, by omega, by go_num, ?_, HS6.out, HN6.out, HB6.out⟩
      rw [HX2.out]
      exact Ho6.out
     case measure => simp [intOf]; omega
    ·obtain rfl : i = xs.length := by omega
     have hiI : ¬ (xs.length : Int) < xs.length := by omega
     have Hz : Hid (wx.ownsRow w.heap.size 38 14 u (piecesL 0 (ss.take (k + 1))).length ((piecesL 0 (ss.take (k + 1))).flatMap Sgt.cells)) := Lib.hid (by
      rw [Hsn.out, List.length_append, List.length_map]
      rw [List.take_length] at ho
      exact ho)
     have HBx := Lib.hid hB
     clear ho hg hne hB
     go_wp2
     go_roundw
     case rel => exact ⟨k + 1, by omega, by go_num, Hz.out, HBx.out⟩
     case measure => simp [intOf]; omega
  ·obtain rfl : k = ss.length := by omega
   have hkI : ¬ (ss.length : Int) < ss.length := by omega
   have HS := Lib.hid (SgtsAt.of_own Ho.out)
   rw [List.take_length] at HS
   go_wp2
   go_ret
   exact ⟨_, rfl, HS.out, HBr.out⟩
end Go.Proofs.YtnlnmfkmbpihhaaGreatDoor
