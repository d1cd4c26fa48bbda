/-
 Two frames compared.
 WALK: steleref44.Same at equal collections.
-/
import Derived.Test.YtnlnmfkmbpihhaaGreatDoorScC
import Derived.BigQuiet
namespace Go.Proofs.YtnlnmfkmbpihhaaGreatDoor
open Go.RowKit

/-- The same frame. -/
def frEq (x y : Frm) : Bool := x.k == y.k && (x.r == y.r && (x.s == y.s && (x.i == y.i && (x.l == y.l && ((x.d == y.d && x.p == y.p) && (x.a == y.a && x.t.toList == y.t.toList))))))
theorem frEq_iff {x y : Frm} : frEq x y = true ↔ x = y := by
 obtain ⟨k, r, s, i, l, d, p, a, t⟩ := x
 obtain ⟨k', r', s', i', l', d', p', a', t'⟩ := y
 unfold frEq
 rw [← beq_toListBytes]
 simp [and_assoc, Go.MapKept.bytes_beq]
set_option maxRecDepth 100000 in
set_option maxHeartbeats 4000000 in
theorem run_eqF (f g : Frm) (w : World) : (Op.equalIn 10000 34 f.v g.v).run Tryz.prog w = .ok (frEq f g) w := by
 obtain ⟨k, r, s, i, l, d, p, a, t⟩ := f
 obtain ⟨k', r', s', i', l', d', p', a', t'⟩ := g
 unfold Frm.v frV frEq
 rw [show (10000 : Nat) = 9999 + 1 from rfl, run_equalIn_agg w 9999 34 _ _ (by kernel_rfl) (by kernel_rfl)]
 have u3 := Tryz.underlying3
 have a3 := Tryz.isAgg3
 have z3 := Tryz.sizeOf3
 simp only [Program.fieldsOf, Tryz.underlying34]
 go_simp
 (repeat' split) <;> simp_all
theorem run_neqF (f g : Frm) (w : World) : (binOp .neq 34 f.v g.v).run Tryz.prog w = .ok (.bool (!frEq f g)) w := by
 have h := run_eqF f g w
 unfold Frm.v frV at h ⊢
 rw [run_neq_struct, h]
 rfl
theorem run_eqlF (f g : Frm) (w : World) : (binOp .eql 34 f.v g.v).run Tryz.prog w = .ok (.bool (frEq f g)) w := by
 have h := run_eqF f g w
 unfold Frm.v frV at h ⊢
 rw [run_eql_struct, h]
 rfl
theorem run_guardF (op : BinOp) (x y : Operand) (f g : Frm) (w : World) : (eqGuard op 34 x y f.v g.v).run Tryz.prog w = .ok () w := by
 unfold Frm.v frV
 exact run_eqGuard_agg w op 34 x y _ _ (by kernel_rfl)
section
variable {ops : Array Oper} {C : World → Prop} {a : Act} {o : Oper} {rest : List Oper}
/-- 'f != g' in a region that only reads. -/
theorem quiet_neqF {K : Act → Prop} (x y : Operand) (h : o.op = .binOp .neq 34 x y 34) (f g : Frm) (hx : a.eval x = f.v) (hy : a.eval y = g.v) {b : Bool} (hb : (!frEq f g) = b) (hk : K (a.put o.dst (.bool b))) : o.quiet Tryz.prog a C K := by
 refine ⟨.bool b, fun w _ => ?_, hk⟩
 unfold Oper.quietAt execOp
 simp only [h, hx, hy, Sem.run_bind, run_guardF, run_neqF, Result.andThen_ok, hb]
 simp only [Sem.run_pure]
 exact ⟨rfl, rfl⟩
theorem quiet_neqF_step {Q : Act → Prop} (x y : Operand) (h : o.op = .binOp .neq 34 x y 34) (hw : Region.wanted o (yielded ops a.tmps) = true) (f g : Frm) (hx : a.eval x = f.v) (hy : a.eval y = g.v) {b : Bool} (hb : (!frEq f g) = b)
  (hk : wpQuiet Tryz.prog ops C Q rest (a.put o.dst (.bool b))) : wpQuiet Tryz.prog ops C Q (o :: rest) a :=
 BigFrame.wpQuiet_want hw fun _ hK => quiet_neqF x y h f g hx hy hb (hK _ hk)
theorem wpList_neqF {W : World} {Q : Exit → Act → World → Prop} (x y : Operand) (h : o.op = .binOp .neq 34 x y 34) (hw : Region.wanted o (yielded ops a.tmps) = true) (f g : Frm) (hx : a.eval x = f.v) (hy : a.eval y = g.v) {b : Bool} (hb : (!frEq f g) = b)
  (hk : wpList Tryz.prog ops Q rest (a.put o.dst (.bool b)) W) : wpList Tryz.prog ops Q (o :: rest) a W := by
 refine wpList_step fun K hK => ?_
 rw [if_pos hw]
 unfold Oper.wp execOp
 simp only [h, hx, hy, Sem.run_bind, run_guardF, run_neqF, Result.andThen_ok, hb, Sem.run_pure]
 exact hK _ _ hk
theorem wpList_eqlF {W : World} {Q : Exit → Act → World → Prop} (x y : Operand) (h : o.op = .binOp .eql 34 x y 34) (hw : Region.wanted o (yielded ops a.tmps) = true) (f g : Frm) (hx : a.eval x = f.v) (hy : a.eval y = g.v) {b : Bool} (hb : frEq f g = b)
  (hk : wpList Tryz.prog ops Q rest (a.put o.dst (.bool b)) W) : wpList Tryz.prog ops Q (o :: rest) a W := by
 refine wpList_step fun K hK => ?_
 rw [if_pos hw]
 unfold Oper.wp execOp
 simp only [h, hx, hy, Sem.run_bind, run_guardF, run_eqlF, Result.andThen_ok, hb, Sem.run_pure]
 exact hK _ _ hk
end
end Go.Proofs.YtnlnmfkmbpihhaaGreatDoor

namespace Go.Proofs.YtnlnmfkmbpihhaaGreatDoor
open Go.RowKit

set_option maxRecDepth 100000 in
set_option maxHeartbeats 16000000 in
theorem same44_any (w : World) (ar : Int) (v1 v2 : Value) (fs : List Frm) (h1 : FrmsAt w v1 fs) (h2 : FrmsAt w v2 fs) : Calls Tryz.prog 25 #[.agg #[.int .u32 ar, v1], .agg #[.int .u32 ar, v2]] w fun e w' => e = .returned (.bool true) ∧ Below w.heap.size w w' := by
 obtain ⟨A1, cc1, rfl, hl1, hm1, d1⟩ := h1
 obtain ⟨A2, cc2, rfl, hl2, hm2, d2⟩ := h2
 have D1 := Lib.hid d1
 have D2 := Lib.hid d2
 clear d1 d2
 obtain ⟨wa, hwa⟩ : ∃ wa, w.alloc (.cells #[.int .u32 ar, .slice A1 fs.length cc1] 55) = wa := ⟨_, rfl⟩
 have ha : Blk wa w.heap.size 55 [.int .u32 ar, .slice A1 fs.length cc1] := hwa ▸ Blk.new w 55 [.int .u32 ar, .slice A1 fs.length cc1]
 have sa : wa.heap.size = w.heap.size + 1 := by rw [← hwa]; simp
 have Ba : Below w.heap.size w wa := hwa ▸ (Below.refl _ _).alloc (Nat.le_refl _) _
 obtain ⟨wz, hwz⟩ : ∃ wz, wa.alloc (.cells #[.int .u32 ar, .slice A2 fs.length cc2] 55) = wz := ⟨_, rfl⟩
 have hb : Blk wz (w.heap.size + 1) 55 [.int .u32 ar, .slice A2 fs.length cc2] := by rw [← sa, ← hwz]; exact Blk.new wa 55 [.int .u32 ar, .slice A2 fs.length cc2]
 have HA : Hid (Blk wz w.heap.size 55 [.int .u32 ar, .slice A1 fs.length cc1]) := Lib.hid (hwz ▸ ha.alloc _)
 have HB := Lib.hid hb
 have HBz : Hid (Below w.heap.size w wz) := Lib.hid (hwz ▸ Ba.alloc Ba.size _)
 have hWW : (w.alloc (.cells #[.int .u32 ar, .slice A1 fs.length cc1] 55)).alloc (.cells #[.int .u32 ar, .slice A2 fs.length cc2] 55) = wz := by rw [hwa, hwz]
 clear ha sa Ba hb hwa hwz
 go_enter Tryz.func25, Tryz.ntmps25
 go_upto_region 1 with fail
 (try rw [hWW])
 clear hWW
 have a0 := HA.out.cell (i := 0) rfl
 have a1 := HA.out.cell (i := 1) rfl
 have b0 := HB.out.cell (i := 0) rfl
 have b1 := HB.out.cell (i := 1) rfl
 go_wp2
 clear a0 a1 b0 b1
 go_loopw [5] (fun x wr => ∃ k : Nat, k ≤ fs.length ∧ x = .int .i64 (k : Int) ∧ Below wz.heap.size wz wr) (fun x _ => fs.length - (intOf x).toNat)
 case atStart => exact ⟨0, by omega, rfl, Below.refl _ _⟩
 case round =>
  obtain ⟨k, hk, rfl, hB⟩ := hrel
  have HBr := Lib.hid hB
  have a1 := (HA.out.kept hB).cell (i := 1) rfl
  have b1 := (HB.out.kept hB).cell (i := 1) rfl
  clear hB
  by_cases h : k < fs.length
  ·have hkI : (k : Int) < fs.length := by omega
   obtain ⟨x, hx⟩ : ∃ x, fs[k]? = some x := ⟨_, List.getElem?_eq_getElem h⟩
   obtain ⟨q1, o1, rfl, g1⟩ := D1.out k _ hx
   obtain ⟨q2, o2, rfl, g2⟩ := D2.out k _ hx
   have hd1 := fun j u hu => cell_below (HBz.out.trans (HBr.out.mono HBz.out.size)) (g1 j u hu)
   have hd2 := fun j u hu => cell_below (HBz.out.trans (HBr.out.mono HBz.out.size)) (g2 j u hu)
   obtain ⟨k0, r0, s0, i0, l0, d0, p0, a0, t0⟩ := x
   have c0 := hd1 0 _ rfl; have e0 := hd2 0 _ rfl
   have c1 := hd1 1 _ rfl; have e1 := hd2 1 _ rfl
   have c2 := hd1 2 _ rfl; have e2 := hd2 2 _ rfl
   have c3 := hd1 3 _ rfl; have e3 := hd2 3 _ rfl
   have c4 := hd1 4 _ rfl; have e4 := hd2 4 _ rfl
   have c5 := hd1 5 _ rfl; have e5 := hd2 5 _ rfl
   have c6 := hd1 6 _ rfl; have e6 := hd2 6 _ rfl
   have c7 := hd1 7 _ rfl; have e7 := hd2 7 _ rfl
   have c8 := hd1 8 _ rfl; have e8 := hd2 8 _ rfl
   dsimp only at c0 c1 c2 c3 c4 c5 c6 c7 c8 e0 e1 e2 e3 e4 e5 e6 e7 e8
   rw [Nat.add_zero] at c0 e0
   clear hd1 hd2 g1 g2 hx D1 D2
   go_upto_region 6 with fail
   go_quiet (fail)
   clear c0 c1 c2 c3 c4 c5 c6 c7 c8 e0 e1 e2 e3 e4 e5 e6 e7 e8 a1 b1
   go_wp2
   go_roundw
   case rel => exact ⟨k + 1, by omega, by go_num, below_drewN HBr.out nq⟩
   case measure => simp [intOf]; omega
  ·have hkI : ¬ (k : Int) < fs.length := by omega
   go_wp2
   go_ret
   exact ⟨rfl, HBz.out.trans (HBr.out.mono HBz.out.size)⟩
end Go.Proofs.YtnlnmfkmbpihhaaGreatDoor
