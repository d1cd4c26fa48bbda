/-
 WALKS: collect.Sessions, steleref44.Sessions, SameInts.
-/
import Derived.Test.YtnlnmfkmbpihhaaGreatDoorCoH
import Derived.Test.YtnlnmfkmbpihhaaGreatDoorShelg
import Derived.Maps.AppendAt
namespace Go.Proofs.YtnlnmfkmbpihhaaGreatDoor
open Go.RowKit Go.Shelf Go.Sort

theorem own_belC {w w' : World} {B n size : Nat} {t : TypeId} {v : Value} {xs : List Value} (h : w.ownsRow B t size v n xs) (hb : Below w.heap.size w w') : w'.ownsRow B t size v n xs :=
 ⟨h.1, h.2.imp id fun ⟨g, cap, cur, e, hB, hh, r⟩ => ⟨g, cap, cur, e, hB, (hb.block g (Array.getElem?_eq_some_iff.1 hh).1).trans hh, r⟩⟩
theorem own_geC {w : World} {B n size : Nat} {t : TypeId} {v : Value} {xs : List Value} (h : w.ownsRow B t size v n xs) : ∀ k, v.ownBlock = some k → B ≤ k := fun k hk => (h.lt k hk).1
theorem own_putC {w w' : World} {B n size : Nat} {t : TypeId} {v : Value} {xs : List Value} {row : Option Nat} (h : w.ownsRow B t size v n xs) (hg : w.grownBy w' row) (hne : ∀ k, v.ownBlock = some k → row ≠ some k) : w'.ownsRow B t size v n xs :=
 ⟨h.1, h.2.imp id fun ⟨g, cap, cur, e, hB, hh, r⟩ => ⟨g, cap, cur, e, hB, (hg.block g (Array.getElem?_eq_some_iff.1 hh).1 (fun e2 => hne g (by rw [e]; rfl) e2.symm)).trans hh, r⟩⟩
theorem ne_afterC {w : World} {u u' v : Value} {B n size : Nat} {t : TypeId} {xs : List Value} (h : w.ownsRow B t size v n xs) (hne : ∀ j, u.ownBlock = some j → v.ownBlock ≠ some j) (hat : u'.ownBlock = u.ownBlock ∨ u'.ownBlock = some w.heap.size) :
  ∀ j, u'.ownBlock = some j → v.ownBlock ≠ some j := fun j hj e => by
 rcases hat with h6 | h6
 ·exact hne j (h6.symm.trans hj) e
 ·have h7 := h6.symm.trans hj
  have h8 := (h.lt j e).2
  simp only [Option.some.injEq] at h7
  omega
/-- append to a row of the call's own; where the longer row lies. -/
theorem append_atC {P : Program} {ops : Array Oper} {rest : List Oper} {o : Oper} {a : Act} {Q : Exit → Act → World → Prop} (w : World) (hgd : o.guard = none) (s x : Operand) (t : TypeId) (ho : o.op = .call { callee := .builtin .append, args := #[s, x], argTypes := #[t, t] })
  (base : Nat) (e : TypeId) (i : TypeInfo) (z : Value) (size bytes : Nat) (ht : P.underlying t = some (.slice e)) (hi : P.info? e = some i) (hz : i.zero = some z) (hsize : i.size = size) (hby : i.bytes = bytes) (hzs : z.cells.size = size) (hsz : 0 < size)
  (v : Value) (n : Nat) (xs : List Value) (hs : a.eval s = v) (hown : w.ownsRow base e size v n xs) (ad : Addr) (m c : Nat) (news : List Value) (hx : a.eval x = .slice (some ad) m c) (hl : news.length = m * size)
  (hnews : ∀ j u, news[j]? = some u → w.cell? (ad.add j) = some u) (h1 : ∀ u ∈ news, u.oneCell' = true) (h63 : n + m ≤ maxLen) (hbytes : (n + m) * bytes ≤ 140737488355328) (hbase : base ≤ w.heap.size)
  (h : ∀ v' w', w'.ownsRow base e size v' (n + m) (xs ++ news) → w.grownBy w' v.ownBlock → (v'.ownBlock = v.ownBlock ∨ v'.ownBlock = some w.heap.size) → wpList P ops Q rest (a.put o.dst v') w') : wpList P ops Q (o :: rest) a w := by
 obtain ⟨v', w', hr, g1, g2, _, g3⟩ := run_append_own_at (P := P) w base t o.type e i z size bytes ht hi hz hsize hby hzs hsz v n xs hown ad m c news hl hnews h1 h63 hbytes hbase
 refine wpList_plain hgd fun K hK => ?_
 unfold Oper.wp execOp
 simp only [ho, resolve, invoke, builtin, Sem.run_bind, Sem.run_pure, Result.andThen_ok, List.map_toArray, List.map_cons, List.map_nil, hs, hx, hr]
 exact hK _ _ (h v' w' g1 g2 g3)
theorem Tryz.infoI : (Tryz.prog.info? 3).map (fun i => (i.zero, i.size, i.bytes)) = some (some (.int .i64 0), 1, 8) := by kernel_rfl
theorem take_one {fs : List Frm} {k : Nat} {f : Frm} (h : fs[k]? = some f) : ((fs.take (k + 1)).map Frm.s).map intV = ((fs.take k).map Frm.s).map intV ++ [.int .i64 f.s] := by
 obtain ⟨h1, h2⟩ := List.getElem?_eq_some_iff.1 h
 rw [List.take_succ_eq_append_getElem h1, h2]
 simp

set_option maxRecDepth 100000 in
set_option maxHeartbeats 8000000 in
theorem sess_any (w : World) (ar : Int) (v : Value) (fs : List Frm) (hv : FrmsAt w v fs) (hl : fs.length ≤ 1000) :
  Calls Tryz.prog 34 #[.agg #[.int .u32 ar, v]] w fun e w' => ∃ v', e = .returned v' ∧ IntsAt w' v' (sessL (fs.map Frm.s)) ∧ Below w.heap.size w w' := by
 have Hv := Lib.hid hv
 obtain ⟨A, c, rfl, h1, h2, h3⟩ := hv
 clear h3
 have hz1 := (Blk.new w 55 [.int .u32 ar, .slice A fs.length c]).cell (i := 1) rfl
 change (w.alloc (.cells #[.int .u32 ar, .slice A fs.length c] 55)).cell? _ = _ at hz1
 have HBz := Lib.hid ((Below.refl w.heap.size w).alloc (Nat.le_refl _) (.cells #[.int .u32 ar, .slice A fs.length c] 55))
 obtain ⟨iI, hi, hq0, hq1, hq2⟩ := info_parts Tryz.infoI
 have HiI : Hid (Tryz.prog.info? 3 = some iI ∧ iI.zero = some (.int .i64 0) ∧ iI.size = 1 ∧ iI.bytes = 8) := Lib.hid ⟨hi, hq0, hq1, hq2⟩
 clear hi hq0 hq1 hq2
 go_enter Tryz.func34, Tryz.ntmps34
 go_upto_region 2 with fail
 generalize w.alloc (.cells #[.int .u32 ar, .slice A fs.length c] 55) = wz at *
 go_wp2
 go_loopw [3, 9] (fun y x wr => ∃ k : Nat, k ≤ fs.length ∧ x = .int .i64 (k : Int) ∧ wr.ownsRow w.heap.size 3 1 y k (((fs.take k).map Frm.s).map intV) ∧ Below w.heap.size w wr) (fun _ x _ => fs.length - (intOf x).toNat)
 case atStart => exact ⟨0, by omega, rfl, World.ownsRow_nil _ _ _ _, HBz.out⟩
 case round =>
  obtain ⟨v, rfl⟩ : ∃ x, x = u3 := ⟨_, rfl⟩
  obtain ⟨k, hk, rfl, ho, hB⟩ := hrel
  clear HBz hz1
  have HBr := Lib.hid hB
  have Ho := Lib.hid ho
  clear hB ho
  by_cases h : k < fs.length
  ·have hkI : (k : Int) < fs.length := by omega
   obtain ⟨f, hf⟩ : ∃ f, fs[k]? = some f := ⟨_, List.getElem?_eq_getElem h⟩
   obtain ⟨_, _, e9, _, _, h4⟩ := Hv.out.below HBr.out
   cases e9
   obtain ⟨b, o, rfl, h5⟩ := h4 k f hf
   have Htk := Lib.hid (take_one hf)
   obtain ⟨k0, r0, s0, i0, l0, d0, p0, a0, t0⟩ := f
   have c0 := h5 0 _ rfl
   have c1 := h5 1 _ rfl
   have c2 := h5 2 _ rfl
   have c3 := h5 3 _ rfl
   have c4 := h5 4 _ rfl
   have c5 := h5 5 _ rfl
   have c6 := h5 6 _ rfl
   have c7 := h5 7 _ rfl
   have c8 := h5 8 _ rfl
   dsimp only at c0 c1 c2 c3 c4 c5 c6 c7 c8
   rw [Nat.add_zero] at c0
   clear h4 h5 hf
   have hF := Blk.new wr 34 [.int .i64 k0, .int .i64 r0, .int .i64 s0, .int .i64 i0, .int .i64 l0, .int .i64 d0, .int .i64 p0, .int .u32 a0, .string t0]
   change Blk (wr.alloc (.cells #[.int .i64 k0, .int .i64 r0, .int .i64 s0, .int .i64 i0, .int .i64 l0, .int .i64 d0, .int .i64 p0, .int .u32 a0, .string t0] 34)) _ _ _ at hF
   have hBy := HBr.out.alloc HBr.out.size (.cells #[.int .i64 k0, .int .i64 r0, .int .i64 s0, .int .i64 i0, .int .i64 l0, .int .i64 d0, .int .i64 p0, .int .u32 a0, .string t0] 34)
   have ho1 := Ho.out.alloc (.cells #[.int .i64 k0, .int .i64 r0, .int .i64 s0, .int .i64 i0, .int .i64 l0, .int .i64 d0, .int .i64 p0, .int .u32 a0, .string t0] 34)
   go_upto_region 5 with fail
   clear c0 c1 c2 c3 c4 c5 c6 c7 c8
   generalize wr.alloc (.cells #[.int .i64 k0, .int .i64 r0, .int .i64 s0, .int .i64 i0, .int .i64 l0, .int .i64 d0, .int .i64 p0, .int .u32 a0, .string t0] 34) = wy at *
   have f2 := hF.cell (i := 2) rfl
   have HBy := Lib.hid hBy
   have Ho1 := Lib.hid ho1
   clear hF hBy ho1 HBr Ho
   have Hnews : Hid (∀ (j : Nat) (u : Value), ([.int .i64 s0] : List Value)[j]? = some u → (wy.alloc (.cells #[.int .i64 s0] 3)).cell? ((⟨wy.heap.size, 0, none⟩ : Addr).add j) = some u) := Lib.hid (fun j u hj => by
    rw [Addr.add_lit, Nat.zero_add]
    exact (Blk.new wy 3 [.int .i64 s0]).cell hj)
   have Hone : Hid (∀ u ∈ ([.int .i64 s0] : List Value), u.oneCell' = true) := Lib.hid (by simp [Value.oneCell'])
   have Hoa := Lib.hid (Ho1.out.alloc (.cells #[.int .i64 s0] 3))
   have HBa := Lib.hid (HBy.out.alloc HBy.out.size (.cells #[.int .i64 s0] 3))
   go_wp2_with (at_builtin; refine wpList_append_own _ rfl _ _ 70 rfl w.heap.size 3 iI (.int .i64 0) 1 8 Tryz.underlying70 HiI.out.1 HiI.out.2.1 HiI.out.2.2.1 HiI.out.2.2.2 rfl (by omega) _ k _ rfl Hoa.out ⟨wy.heap.size, 0, none⟩ 1 1 _ rfl rfl Hnews.out Hone.out (by unfold maxLen; omega) (by omega) HBa.out.size ?_; intro v' w6 hown6 hgr6 _; have Ho6 := Lib.hid hown6; have HB6 := Lib.hid (HBa.out.grown hgr6 HBa.out.size (own_geC Hoa.out)); clear hown6 hgr6)
   go_roundw
   case rel => exact ⟨k + 1, by omega, by go_num, by rw [Htk.out]; exact Ho6.out, HB6.out⟩
   case measure => simp [intOf]; omega
  ·obtain rfl : k = fs.length := by omega
   have hkI : ¬ (fs.length : Int) < fs.length := by omega
   have ho := Ho.out
   rw [List.take_length] at ho
   have hnl : (fs.map Frm.s).length = fs.length := List.length_map _
   by_cases hnil : v = .slice none 0 0
   ·subst hnil
    have h0 : fs.length = 0 := by
     rcases ho.2 with ⟨_, h0⟩ | ⟨g, cap, cur, e, _⟩
     ·exact h0
     ·cases e
    obtain rfl : fs = [] := List.length_eq_zero_iff.1 h0
    have he0 : sessL (([] : List Frm).map Frm.s) = [] := List.eq_nil_iff_forall_not_mem.2 fun x hx => by have := ((sessL_spec _).2 x).1 hx; cases this
    have He0 := Lib.hid he0
    clear he0
    have HS : Hid (∀ W : World, Calls Tryz.prog 67 #[.slice none 0 0] W fun e w' => e = .returned (.tuple #[]) ∧ w' = W) := Lib.hid (fun W => Any.slices_Sort_int_none Tryz.sortInts none 0 W)
    have HC : Hid (∀ W : World, Calls Tryz.prog 68 #[.slice none 0 0] W fun e w' => e = .returned (.slice none 0 0) ∧ w' = W) := Lib.hid (fun W => Any.slices_Compact_int_empty Tryz.compactInts none 0 W)
    clear ho Ho
    go_wp2_with (first | (go_at_call 67; refine (HS.out _).mono ?_; rintro e w2 ⟨rfl, rfl⟩) | (go_at_call 68; refine (HC.out _).mono ?_; rintro e w3 ⟨rfl, rfl⟩))
    go_ret
    exact ⟨_, rfl, by rw [He0.out]; exact ⟨none, 0, rfl, Nat.le_refl _, by omega, fun i x hx => by cases hx⟩, HBr.out⟩
   ·obtain ⟨g, cap, rfl, hg0, hgl, hnc, hcm, hzl, hH⟩ := Lib.holds_of_ownsRow ho hnil
    obtain ⟨zs, hzs⟩ : ∃ zs, fs.map Frm.s = zs := ⟨_, rfl⟩
    rw [hzs] at hH hzl ho
    have hst := Any.slices_Sort_int Tryz.sortInts g 0 cap zs wr hH hgl (by omega)
    rw [hzl] at hst
    have HS : Hid (Calls Tryz.prog 67 #[.slice (some ⟨g, 0, none⟩) fs.length cap] wr fun e w' => e = .returned (.tuple #[]) ∧ ∃ n os, w' = grow (putRow (Value.int .i64) (Sort.ahead wr n) g 0 (zs.mergeSort fun x y => decide (x ≤ y)).toArray) os) := Lib.hid hst
    have Hs : Hid (sessL (fs.map Frm.s) = Lib.compact (zs.mergeSort fun x y => decide (x ≤ y))) := Lib.hid (by rw [hzs]; rfl)
    obtain ⟨ys, hys⟩ : ∃ ys, (zs.mergeSort fun x y => decide (x ≤ y)) = ys := ⟨_, rfl⟩
    have hyl : ys.length = fs.length := by rw [← hys, (List.mergeSort_perm _ _).length_eq, hzl]
    rw [hys] at HS Hs
    have Ho2 := Lib.hid ho
    clear hst hys ho Ho hH
    go_wp2_with fail
    refine HS.out.mono ?_
    rintro e w2 ⟨rfl, n, os, rfl⟩
    have hop := Lib.ownsRow_putRow (q := n) (k := fs.length) Ho2.out hyl (Nat.le_refl _)
    rw [show ys.take fs.length = ys by rw [← hyl, List.take_length]] at hop
    have hbp := Lib.below_putRow (enc := Value.int .i64) (q := n) (d := ys.toArray) HBr.out hg0
    obtain ⟨V, hV⟩ : ∃ V, putRow (Value.int .i64) (Sort.ahead wr n) g 0 ys.toArray = V := ⟨_, rfl⟩
    rw [hV] at hop hbp ⊢
    have hbg : Below V.heap.size V (grow V os) := ⟨rfl, rfl, rfl, by simp [grow], fun k hk => by simp [grow, Array.getElem?_append, hk]⟩
    have hop2 := own_belC hop hbg
    have hbp2 := hbp.trans (hbg.mono hbp.size)
    obtain ⟨V2, hV2⟩ : ∃ V2, grow V os = V2 := ⟨_, rfl⟩
    rw [hV2] at hop2 hbp2 ⊢
    obtain ⟨g2, cap2, e2, _, hgl2, hnc2, _, _, hH2⟩ := Lib.holds_of_ownsRow hop2 (by simp)
    cases e2
    have hcl := Lib.compact_length_le ys
    have hct := Any.slices_Compact_int Tryz.compactInts g 0 cap ys V2 hH2 (by omega) (by omega)
    rw [hyl] at hct
    have HC : Hid (Calls Tryz.prog 68 #[.slice (some ⟨g, 0, none⟩) fs.length cap] V2 fun e w' => e = .returned (.slice (some ⟨g, 0, none⟩) (Lib.compact ys).length cap) ∧ ∃ q, w' = putRow (Value.int .i64) (Sort.ahead V2 q) g 0 (Lib.compact ys ++ List.replicate (fs.length - (Lib.compact ys).length) 0).toArray) := Lib.hid hct
    have Hop2 := Lib.hid hop2
    have Hbp2 := Lib.hid hbp2
    clear hct hop2 hbp2 hop hbp hV hV2 hbg HS Ho2 hH2
    go_wp2_with fail
    refine HC.out.mono ?_
    rintro e w3 ⟨rfl, q, rfl⟩
    have hk3 := Lib.ownsRow_putRow (q := q) (ys := Lib.compact ys ++ List.replicate (fs.length - (Lib.compact ys).length) 0) (k := (Lib.compact ys).length) Hop2.out (by simp; omega) (by omega)
    rw [List.take_left] at hk3
    have hI := SlAt.of_own (f := intV) hk3
    have hb3 := Lib.below_putRow (enc := Value.int .i64) (q := q) (d := (Lib.compact ys ++ List.replicate (fs.length - (Lib.compact ys).length) 0).toArray) Hbp2.out hg0
    have HI := Lib.hid hI
    have HB3 := Lib.hid hb3
    clear hk3 hI hb3 HC Hop2 Hbp2
    go_wp2_with fail
    go_ret
    exact ⟨_, rfl, by rw [Hs.out]; exact HI.out, HB3.out⟩

theorem refS_take {fs : List Frm} {k : Nat} {f : Frm} (h : fs[k]? = some f) : refS ((fs.take (k + 1)).map Frm.s) = insF f.s (refS ((fs.take k).map Frm.s)) := by
 obtain ⟨h1, h2⟩ := List.getElem?_eq_some_iff.1 h
 rw [List.take_succ_eq_append_getElem h1, h2, List.map_append]
 unfold refS
 rw [List.foldl_append]
 rfl
theorem refS_len (zs : List Int) : (refS zs).length ≤ zs.length := by
 rw [refS_eq]
 have h := Lib.compact_length_le (zs.mergeSort fun x y => decide (x ≤ y))
 rw [(List.mergeSort_perm _ _).length_eq] at h
 exact h
theorem insD_len (s : Int) : ∀ (out : List Int) (a : Bool × List Int), (out.foldl (insD s) a).2.length ≤ a.2.length + 2 * out.length
 | [], a => by simp
 | o :: r, a => by
  have h := insD_len s r (insD s a o)
  have h2 : (insD s a o).2.length ≤ a.2.length + 2 := by
   unfold insD
   dsimp only
   split <;> split <;> simp
  rw [List.foldl_cons, List.length_cons]
  omega
theorem ins_take {out : List Int} {j : Nat} {o : Int} (h : out[j]? = some o) (s : Int) (a : Bool × List Int) : (out.take (j + 1)).foldl (insD s) a = insD s ((out.take j).foldl (insD s) a) o := by
 obtain ⟨h1, h2⟩ := List.getElem?_eq_some_iff.1 h
 rw [List.take_succ_eq_append_getElem h1, h2, List.foldl_append]
 rfl

set_option maxRecDepth 100000 in
set_option maxHeartbeats 16000000 in
theorem rsess_any (w : World) (ar : Int) (v : Value) (fs : List Frm) (hv : FrmsAt w v fs) (hl : fs.length ≤ 1000) :
  Calls Tryz.prog 36 #[.agg #[.int .u32 ar, v]] w fun e w' => ∃ v', e = .returned v' ∧ IntsAt w' v' (sessL (fs.map Frm.s)) ∧ Below w.heap.size w w' := by
 have Hv := Lib.hid hv
 obtain ⟨A, c, rfl, h1, h2, h3⟩ := hv
 clear h3
 obtain ⟨wa, hwa⟩ : ∃ wa, w.alloc (.cells #[.int .u32 ar, .slice A fs.length c] 55) = wa := ⟨_, rfl⟩
 have ha : Blk wa w.heap.size 55 [.int .u32 ar, .slice A fs.length c] := hwa ▸ Blk.new w 55 [.int .u32 ar, .slice A fs.length c]
 have sa : wa.heap.size = w.heap.size + 1 := by rw [← hwa]; simp
 have Ba : Below w.heap.size w wa := hwa ▸ (Below.refl _ _).alloc (Nat.le_refl _) _
 obtain ⟨wz, hwz⟩ : ∃ wz, wa.alloc (.cells #[] 3) = wz := ⟨_, rfl⟩
 have hE0 : wz.ownsRow (w.heap.size + 1) 3 1 (.slice (some ⟨w.heap.size + 1, 0, none⟩) 0 0) 0 [] := by rw [← sa, ← hwz]; exact own_empty wa 3 1
 have HE0 := Lib.hid hE0
 have HC : Hid (Blk wz w.heap.size 55 [.int .u32 ar, .slice A fs.length c]) := Lib.hid (hwz ▸ ha.alloc _)
 have HBz : Hid (Below w.heap.size w wz) := Lib.hid (hwz ▸ Ba.alloc Ba.size _)
 have hzs : wz.heap.size = w.heap.size + 1 + 1 := by rw [← hwz]; simp [sa]
 have Hzs := Lib.hid hzs
 have hWW : (w.alloc (.cells #[.int .u32 ar, .slice A fs.length c] 55)).alloc (.cells #[] 3) = wz := by rw [hwa, hwz]
 obtain ⟨iI, hi, hq0, hq1, hq2⟩ := info_parts Tryz.infoI
 have HiI : Hid (Tryz.prog.info? 3 = some iI ∧ iI.zero = some (.int .i64 0) ∧ iI.size = 1 ∧ iI.bytes = 8) := Lib.hid ⟨hi, hq0, hq1, hq2⟩
 clear hi hq0 hq1 hq2 ha sa Ba hE0 hwa hwz hzs
 go_enter Tryz.func36, Tryz.ntmps36
 go_upto_region 2 with fail
 (try rw [hWW])
 clear hWW
 go_wp2
 go_loopw [3, 4] (fun y x wr => ∃ k : Nat, k ≤ fs.length ∧ x = .int .i64 (k : Int) ∧ wr.ownsRow (w.heap.size + 1) 3 1 y (refS ((fs.take k).map Frm.s)).length ((refS ((fs.take k).map Frm.s)).map intV) ∧ Below (w.heap.size + 1) wz wr) (fun _ x _ => fs.length - (intOf x).toNat)
 case atStart => exact ⟨0, by omega, rfl, HE0.out, Below.refl _ _⟩
 case round =>
  obtain ⟨v, rfl⟩ : ∃ x, x = u3 := ⟨_, rfl⟩
  obtain ⟨wo, rfl⟩ : ∃ x, x = wr := ⟨_, rfl⟩
  obtain ⟨k, hk, rfl, ho, hB⟩ := hrel
  clear HE0
  have HBr := Lib.hid hB
  have Ho := Lib.hid ho
  have hz1 := (HC.out.below hB (by omega)).cell (i := 1) rfl
  clear hB ho
  by_cases h : k < fs.length
  ·have hkI : (k : Int) < fs.length := by omega
   obtain ⟨f, hf⟩ : ∃ f, fs[k]? = some f := ⟨_, List.getElem?_eq_getElem h⟩
   obtain ⟨_, _, e9, _, _, h4⟩ := Hv.out.below (HBz.out.trans (HBr.out.mono (by omega)))
   cases e9
   obtain ⟨b, oo, rfl, h5⟩ := h4 k f hf
   have c2 := h5 2 _ rfl
   have Hrt := Lib.hid (refS_take hf)
   have hol : (refS ((fs.take k).map Frm.s)).length ≤ 1000 := by
    have h1 := refS_len ((fs.take k).map Frm.s)
    rw [List.length_map, List.length_take] at h1
    omega
   obtain ⟨z, hz⟩ : ∃ z, f.s = z := ⟨_, rfl⟩
   obtain ⟨out, hout⟩ : ∃ out, refS ((fs.take k).map Frm.s) = out := ⟨_, rfl⟩
   rw [hz] at c2
   rw [hz, hout] at Hrt
   rw [hout] at Ho hol
   clear h4 h5 hf hout hz
   have hfin : ∃ A n c, v = .slice A n c ∧ n = out.length := by
    rcases Ho.out.2 with ⟨rfl, h0⟩ | ⟨g, cap, _, rfl, _⟩
    ·exact ⟨_, _, _, rfl, h0.symm⟩
    ·exact ⟨_, _, _, rfl, rfl⟩
   obtain ⟨Av, nv, cv, rfl, rfl⟩ := hfin
   go_wp2
   clear c2 hz1
   go_loopw [6, 7, 8] (fun u d x wx => ∃ (j : Nat) (dn : Bool) (nx : List Int), j ≤ out.length ∧ x = .int .i64 (j : Int) ∧ d = .bool dn ∧ (out.take j).foldl (insD z) (false, []) = (dn, nx) ∧ wx.ownsRow (w.heap.size + 1) 3 1 u nx.length (nx.map intV) ∧ wx.ownsRow (w.heap.size + 1) 3 1 (.slice Av out.length cv) out.length (out.map intV) ∧
    (∀ i, u.ownBlock = some i → (Value.slice Av out.length cv).ownBlock ≠ some i) ∧ Below (w.heap.size + 1) wz wx) (fun _ _ x _ => out.length - (intOf x).toNat)
   case atStart => exact ⟨0, false, [], by omega, rfl, rfl, rfl, World.ownsRow_nil _ _ _ _, Ho.out, (fun i hi => by cases hi), HBr.out⟩
   case round =>
    obtain ⟨u, rfl⟩ : ∃ x, x = u6 := ⟨_, rfl⟩
    obtain ⟨wx, rfl⟩ : ∃ x, x = wr := ⟨_, rfl⟩
    obtain ⟨j, dn, nx, hj, rfl, rfl, hst, hu, hvv, hne, hBx⟩ := hrel
    have hst := Lib.hid hst
    have hnl : nx.length ≤ 2 * j := by
     have h1 := insD_len z (out.take j) (false, [])
     rw [hst.out, List.length_take] at h1
     simp at h1
     omega
    have hu := Lib.hid hu
    have hne := Lib.hid hne
    have hBx := Lib.hid hBx
    have hzz := Hzs.out
    have hbz := hBx.out.size
    by_cases hj2 : j < out.length
    ·have hjI : (j : Int) < out.length := by omega
     obtain ⟨o, hoj⟩ : ∃ o, out[j]? = some o := ⟨_, List.getElem?_eq_getElem hj2⟩
     obtain ⟨g, cap, e1⟩ : ∃ g cap, Value.slice Av out.length cv = .slice (some ⟨g, 0, none⟩) out.length cap := by
      rcases hvv.2 with ⟨e, h0⟩ | ⟨g, cap, _, e, _⟩
      ·omega
      ·exact ⟨g, cap, e⟩
     simp only [Value.slice.injEq] at e1
     obtain ⟨rfl, _, rfl⟩ := e1
     have hco : wx.cell? ⟨g, j, none⟩ = some (.int .i64 o) := by
      rw [hvv.cellAt j (by omega), List.getElem?_map, hoj]
      rfl
     have hvv := Lib.hid hvv
     have Hnx : Hid ((out.take (j + 1)).foldl (insD z) (false, []) = insD z (dn, nx) o) := Lib.hid (by rw [ins_take hoj, hst.out])
     have hgl := (hvv.out.lt g rfl).2
     clear hoj hst Hrt
     cases dn with
     | true =>
      by_cases q : o = z
      ·have Hn : Hid ((out.take (j + 1)).foldl (insD z) (false, []) = (true, nx)) := Lib.hid (by rw [Hnx.out]; unfold insD; simp [q])
       have hb : (o != z) = false := by rw [q]; simp
       clear Hnx q
       go_wp2
       go_roundw
       case rel => exact ⟨j + 1, true, nx, by omega, by go_num, rfl, Hn.out, hu.out, hvv.out, hne.out, hBx.out⟩
       case measure => simp [intOf]; omega
      ·have Hn : Hid ((out.take (j + 1)).foldl (insD z) (false, []) = (true, nx ++ [o])) := Lib.hid (by rw [Hnx.out]; unfold insD; simp [q])
       have hb : (o != z) = true := by rw [bne_iff_ne]; exact q
       clear Hnx q
       have Hnewsb : Hid (∀ (j : Nat) (x : Value), ([.int .i64 o] : List Value)[j]? = some x → (wx.alloc (.cells #[.int .i64 o] 3)).cell? ((⟨wx.heap.size, 0, none⟩ : Addr).add j) = some x) := Lib.hid (fun j x hj => by
        rw [Addr.add_lit, Nat.zero_add]
        exact (Blk.new wx 3 [.int .i64 o]).cell hj)
       have Honeb : Hid (∀ x ∈ ([.int .i64 o] : List Value), x.oneCell' = true) := Lib.hid (by simp [Value.oneCell'])
       have HUb := Lib.hid (hu.out.alloc (.cells #[.int .i64 o] 3))
       have HVb := Lib.hid (hvv.out.alloc (.cells #[.int .i64 o] 3))
       have HBb := Lib.hid (hBx.out.alloc (by have := hBx.out.size; omega) (.cells #[.int .i64 o] 3))
       go_wp2_with (at_builtin; refine append_atC _ rfl _ _ 70 rfl (w.heap.size + 1) 3 iI (.int .i64 0) 1 8 Tryz.underlying70 HiI.out.1 HiI.out.2.1 HiI.out.2.2.1 HiI.out.2.2.2 rfl (by omega) u nx.length _ rfl HUb.out ⟨wx.heap.size, 0, none⟩ 1 1 _ rfl rfl Hnewsb.out Honeb.out (by unfold maxLen; omega) (by omega) (by have := HBb.out.size; omega) ?_; intro vb wb hob hgb hab; have KUb := Lib.hid hob; have KVb := Lib.hid (own_putC HVb.out hgb (fun k hk e => hne.out k e hk)); have KBb := Lib.hid (HBb.out.grown hgb (by have := HBb.out.size; omega) (own_geC HUb.out)); have KNb := Lib.hid (ne_afterC HVb.out hne.out hab); clear hob hgb hab)
       go_roundw
       case rel => exact ⟨j + 1, true, nx ++ [o], by omega, by go_num, rfl, Hn.out, by rw [List.length_append, List.map_append]; exact KUb.out, KVb.out, KNb.out, KBb.out⟩
       case measure => simp [intOf]; omega
     | false =>
      by_cases q : z ≤ o
      ·by_cases q2 : o = z
       ·have Hn : Hid ((out.take (j + 1)).foldl (insD z) (false, []) = (true, nx ++ [z])) := Lib.hid (by rw [Hnx.out]; unfold insD; simp [q2])
        have hb : (o != z) = false := by rw [q2]; simp
        clear Hnx q2
        have Hnewsa : Hid (∀ (j : Nat) (x : Value), ([.int .i64 z] : List Value)[j]? = some x → (wx.alloc (.cells #[.int .i64 z] 3)).cell? ((⟨wx.heap.size, 0, none⟩ : Addr).add j) = some x) := Lib.hid (fun j x hj => by
         rw [Addr.add_lit, Nat.zero_add]
         exact (Blk.new wx 3 [.int .i64 z]).cell hj)
        have Honea : Hid (∀ x ∈ ([.int .i64 z] : List Value), x.oneCell' = true) := Lib.hid (by simp [Value.oneCell'])
        have HUa := Lib.hid (hu.out.alloc (.cells #[.int .i64 z] 3))
        have HVa := Lib.hid (hvv.out.alloc (.cells #[.int .i64 z] 3))
        have HBa := Lib.hid (hBx.out.alloc (by have := hBx.out.size; omega) (.cells #[.int .i64 z] 3))
        go_upto_region 14 with (at_builtin; refine append_atC _ rfl _ _ 70 rfl (w.heap.size + 1) 3 iI (.int .i64 0) 1 8 Tryz.underlying70 HiI.out.1 HiI.out.2.1 HiI.out.2.2.1 HiI.out.2.2.2 rfl (by omega) u nx.length _ rfl HUa.out ⟨wx.heap.size, 0, none⟩ 1 1 _ rfl rfl Hnewsa.out Honea.out (by unfold maxLen; omega) (by omega) (by have := HBa.out.size; omega) ?_; intro va wa hoa hga haa; have KUa := Lib.hid hoa; have KVa := Lib.hid (own_putC HVa.out hga (fun k hk e => hne.out k e hk)); have KBa := Lib.hid (HBa.out.grown hga (by have := HBa.out.size; omega) (own_geC HUa.out)); have KNa := Lib.hid (ne_afterC HVa.out hne.out haa); clear hoa hga haa)
        have hco2 : wa.cell? ⟨g, j, none⟩ = some (.int .i64 o) := by
         rw [KVa.out.cellAt j (by omega), ← hvv.out.cellAt j (by omega)]
         exact hco
        clear hco
        go_wp2
        go_roundw
        case rel => exact ⟨j + 1, true, nx ++ [z], by omega, by go_num, rfl, Hn.out, by rw [List.length_append, List.map_append]; exact KUa.out, KVa.out, KNa.out, KBa.out⟩
        case measure => simp [intOf]; omega
       ·have Hn : Hid ((out.take (j + 1)).foldl (insD z) (false, []) = (true, nx ++ [z] ++ [o])) := Lib.hid (by rw [Hnx.out]; unfold insD; simp [q, q2])
        have hb : (o != z) = true := by rw [bne_iff_ne]; exact q2
        clear Hnx q2
        have Hnewsa : Hid (∀ (j : Nat) (x : Value), ([.int .i64 z] : List Value)[j]? = some x → (wx.alloc (.cells #[.int .i64 z] 3)).cell? ((⟨wx.heap.size, 0, none⟩ : Addr).add j) = some x) := Lib.hid (fun j x hj => by
         rw [Addr.add_lit, Nat.zero_add]
         exact (Blk.new wx 3 [.int .i64 z]).cell hj)
        have Honea : Hid (∀ x ∈ ([.int .i64 z] : List Value), x.oneCell' = true) := Lib.hid (by simp [Value.oneCell'])
        have HUa := Lib.hid (hu.out.alloc (.cells #[.int .i64 z] 3))
        have HVa := Lib.hid (hvv.out.alloc (.cells #[.int .i64 z] 3))
        have HBa := Lib.hid (hBx.out.alloc (by have := hBx.out.size; omega) (.cells #[.int .i64 z] 3))
        go_upto_region 14 with (at_builtin; refine append_atC _ rfl _ _ 70 rfl (w.heap.size + 1) 3 iI (.int .i64 0) 1 8 Tryz.underlying70 HiI.out.1 HiI.out.2.1 HiI.out.2.2.1 HiI.out.2.2.2 rfl (by omega) u nx.length _ rfl HUa.out ⟨wx.heap.size, 0, none⟩ 1 1 _ rfl rfl Hnewsa.out Honea.out (by unfold maxLen; omega) (by omega) (by have := HBa.out.size; omega) ?_; intro va wa hoa hga haa; have KUa := Lib.hid hoa; have KVa := Lib.hid (own_putC HVa.out hga (fun k hk e => hne.out k e hk)); have KBa := Lib.hid (HBa.out.grown hga (by have := HBa.out.size; omega) (own_geC HUa.out)); have KNa := Lib.hid (ne_afterC HVa.out hne.out haa); clear hoa hga haa)
        have hco2 : wa.cell? ⟨g, j, none⟩ = some (.int .i64 o) := by
         rw [KVa.out.cellAt j (by omega), ← hvv.out.cellAt j (by omega)]
         exact hco
        have hza := KBa.out.size
        clear hco
        have Hnewsb : Hid (∀ (j : Nat) (x : Value), ([.int .i64 o] : List Value)[j]? = some x → (wa.alloc (.cells #[.int .i64 o] 3)).cell? ((⟨wa.heap.size, 0, none⟩ : Addr).add j) = some x) := Lib.hid (fun j x hj => by
         rw [Addr.add_lit, Nat.zero_add]
         exact (Blk.new wa 3 [.int .i64 o]).cell hj)
        have Honeb : Hid (∀ x ∈ ([.int .i64 o] : List Value), x.oneCell' = true) := Lib.hid (by simp [Value.oneCell'])
        have HUb := Lib.hid (KUa.out.alloc (.cells #[.int .i64 o] 3))
        have HVb := Lib.hid (KVa.out.alloc (.cells #[.int .i64 o] 3))
        have HBb := Lib.hid (KBa.out.alloc (by have := KBa.out.size; omega) (.cells #[.int .i64 o] 3))
        go_wp2_with (at_builtin; refine append_atC _ rfl _ _ 70 rfl (w.heap.size + 1) 3 iI (.int .i64 0) 1 8 Tryz.underlying70 HiI.out.1 HiI.out.2.1 HiI.out.2.2.1 HiI.out.2.2.2 rfl (by omega) va (nx.length + 1) _ rfl HUb.out ⟨wa.heap.size, 0, none⟩ 1 1 _ rfl rfl Hnewsb.out Honeb.out (by unfold maxLen; omega) (by omega) (by have := HBb.out.size; omega) ?_; intro vb wb hob hgb hab; have KUb := Lib.hid hob; have KVb := Lib.hid (own_putC HVb.out hgb (fun k hk e => KNa.out k e hk)); have KBb := Lib.hid (HBb.out.grown hgb (by have := HBb.out.size; omega) (own_geC HUb.out)); have KNb := Lib.hid (ne_afterC HVb.out KNa.out hab); clear hob hgb hab)
        go_roundw
        case rel => exact ⟨j + 1, true, nx ++ [z] ++ [o], by omega, by go_num, rfl, Hn.out, by rw [List.length_append, List.length_append, List.map_append, List.map_append]; exact KUb.out, KVb.out, KNb.out, KBb.out⟩
        case measure => simp [intOf]; omega
      ·have Hn : Hid ((out.take (j + 1)).foldl (insD z) (false, []) = (false, nx ++ [o])) := Lib.hid (by rw [Hnx.out]; unfold insD; simp [q, show o ≠ z by omega])
       have hb : (o != z) = true := by rw [bne_iff_ne]; omega
       clear Hnx
       have Hnewsb : Hid (∀ (j : Nat) (x : Value), ([.int .i64 o] : List Value)[j]? = some x → (wx.alloc (.cells #[.int .i64 o] 3)).cell? ((⟨wx.heap.size, 0, none⟩ : Addr).add j) = some x) := Lib.hid (fun j x hj => by
        rw [Addr.add_lit, Nat.zero_add]
        exact (Blk.new wx 3 [.int .i64 o]).cell hj)
       have Honeb : Hid (∀ x ∈ ([.int .i64 o] : List Value), x.oneCell' = true) := Lib.hid (by simp [Value.oneCell'])
       have HUb := Lib.hid (hu.out.alloc (.cells #[.int .i64 o] 3))
       have HVb := Lib.hid (hvv.out.alloc (.cells #[.int .i64 o] 3))
       have HBb := Lib.hid (hBx.out.alloc (by have := hBx.out.size; omega) (.cells #[.int .i64 o] 3))
       go_wp2_with (at_builtin; refine append_atC _ rfl _ _ 70 rfl (w.heap.size + 1) 3 iI (.int .i64 0) 1 8 Tryz.underlying70 HiI.out.1 HiI.out.2.1 HiI.out.2.2.1 HiI.out.2.2.2 rfl (by omega) u nx.length _ rfl HUb.out ⟨wx.heap.size, 0, none⟩ 1 1 _ rfl rfl Hnewsb.out Honeb.out (by unfold maxLen; omega) (by omega) (by have := HBb.out.size; omega) ?_; intro vb wb hob hgb hab; have KUb := Lib.hid hob; have KVb := Lib.hid (own_putC HVb.out hgb (fun k hk e => hne.out k e hk)); have KBb := Lib.hid (HBb.out.grown hgb (by have := HBb.out.size; omega) (own_geC HUb.out)); have KNb := Lib.hid (ne_afterC HVb.out hne.out hab); clear hob hgb hab)
       go_roundw
       case rel => exact ⟨j + 1, false, nx ++ [o], by omega, by go_num, rfl, Hn.out, by rw [List.length_append, List.map_append]; exact KUb.out, KVb.out, KNb.out, KBb.out⟩
       case measure => simp [intOf]; omega
    ·obtain rfl : j = out.length := by omega
     have hjI : ¬ (out.length : Int) < out.length := by omega
     have hs2 := hst.out
     rw [List.take_length] at hs2
     have hvv := Lib.hid hvv
     cases dn with
     | true =>
      have HF : Hid (refS ((fs.take (k + 1)).map Frm.s) = nx) := Lib.hid (by rw [Hrt.out]; unfold insF; rw [hs2]; rfl)
      clear hs2 hst hvv
      go_wp2
      go_roundw
      case rel => exact ⟨k + 1, by omega, by go_num, by rw [HF.out]; exact hu.out, hBx.out⟩
      case measure => simp [intOf]; omega
     | false =>
      have HF : Hid (refS ((fs.take (k + 1)).map Frm.s) = nx ++ [z]) := Lib.hid (by rw [Hrt.out]; unfold insF; rw [hs2]; rfl)
      clear hs2 hst
      have Hnewsa : Hid (∀ (j : Nat) (x : Value), ([.int .i64 z] : List Value)[j]? = some x → (wx.alloc (.cells #[.int .i64 z] 3)).cell? ((⟨wx.heap.size, 0, none⟩ : Addr).add j) = some x) := Lib.hid (fun j x hj => by
       rw [Addr.add_lit, Nat.zero_add]
       exact (Blk.new wx 3 [.int .i64 z]).cell hj)
      have Honea : Hid (∀ x ∈ ([.int .i64 z] : List Value), x.oneCell' = true) := Lib.hid (by simp [Value.oneCell'])
      have HUa := Lib.hid (hu.out.alloc (.cells #[.int .i64 z] 3))
      have HVa := Lib.hid (hvv.out.alloc (.cells #[.int .i64 z] 3))
      have HBa := Lib.hid (hBx.out.alloc (by have := hBx.out.size; omega) (.cells #[.int .i64 z] 3))
      go_wp2_with (at_builtin; refine append_atC _ rfl _ _ 70 rfl (w.heap.size + 1) 3 iI (.int .i64 0) 1 8 Tryz.underlying70 HiI.out.1 HiI.out.2.1 HiI.out.2.2.1 HiI.out.2.2.2 rfl (by omega) u nx.length _ rfl HUa.out ⟨wx.heap.size, 0, none⟩ 1 1 _ rfl rfl Hnewsa.out Honea.out (by unfold maxLen; omega) (by omega) (by have := HBa.out.size; omega) ?_; intro va wa hoa hga haa; have KUa := Lib.hid hoa; have KVa := Lib.hid (own_putC HVa.out hga (fun k hk e => hne.out k e hk)); have KBa := Lib.hid (HBa.out.grown hga (by have := HBa.out.size; omega) (own_geC HUa.out)); have KNa := Lib.hid (ne_afterC HVa.out hne.out haa); clear hoa hga haa)
      go_roundw
      case rel => exact ⟨k + 1, by omega, by go_num, by rw [HF.out, List.length_append, List.map_append]; exact KUa.out, KBa.out⟩
      case measure => simp [intOf]; omega
  ·obtain rfl : k = fs.length := by omega
   have hkI : ¬ (fs.length : Int) < fs.length := by omega
   have HS := Lib.hid (SlAt.of_own (f := intV) Ho.out)
   have He : Hid (refS ((fs.take fs.length).map Frm.s) = sessL (fs.map Frm.s)) := Lib.hid (by rw [List.take_length, refS_eq])
   rw [He.out] at HS
   clear Ho
   go_wp2
   go_ret
   exact ⟨_, rfl, HS.out, HBz.out.trans (HBr.out.mono (by omega))⟩
end Go.Proofs.YtnlnmfkmbpihhaaGreatDoor
