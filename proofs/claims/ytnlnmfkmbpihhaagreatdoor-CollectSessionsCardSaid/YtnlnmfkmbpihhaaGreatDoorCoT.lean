/-
 Two frames compared.
-/
import Derived.Test.YtnlnmfkmbpihhaaGreatDoorScC
import Derived.BigQuiet
namespace Go.Proofs.YtnlnmfkmbpihhaaGreatDoor
open Go.RowKit

/-- The same frame. -/
def frEq (x y : Frm) : Bool := x.k == y.k && (x.r == y.r && (x.s == y.s && (x.i == y.i && (x.l == y.l && ((x.d == y.d && x.p == y.p) && (x.a == y.a && x.t.toList == y.t.toList))))))
theorem frEq_iff {x y : Frm} : frEq x y = true ↔ x = y := by
 obtain ⟨k, r, s, i, l, d, p, a, t⟩ := x
 obtain ⟨k', r', s', i', l', d', p', a', t'⟩ := y
 unfold frEq
 rw [← beq_toListBytes]
 simp [and_assoc, Go.MapKept.bytes_beq]
set_option maxRecDepth 100000 in
set_option maxHeartbeats 4000000 in
theorem run_eqF (f g : Frm) (w : World) : (Op.equalIn 10000 34 f.v g.v).run Tryz.prog w = .ok (frEq f g) w := by
 obtain ⟨k, r, s, i, l, d, p, a, t⟩ := f
 obtain ⟨k', r', s', i', l', d', p', a', t'⟩ := g
 unfold Frm.v frV frEq
 rw [show (10000 : Nat) = 9999 + 1 from rfl, run_equalIn_agg w 9999 34 _ _ (by kernel_rfl) (by kernel_rfl)]
 have u3 := Tryz.underlying3
 have a3 := Tryz.isAgg3
 have z3 := Tryz.sizeOf3
 simp only [Program.fieldsOf, Tryz.underlying34]
 go_simp
 (repeat' split) <;> simp_all
theorem run_neqF (f g : Frm) (w : World) : (binOp .neq 34 f.v g.v).run Tryz.prog w = .ok (.bool (!frEq f g)) w := by
 have h := run_eqF f g w
 unfold Frm.v frV at h ⊢
 rw [run_neq_struct, h]
 rfl
theorem run_eqlF (f g : Frm) (w : World) : (binOp .eql 34 f.v g.v).run Tryz.prog w = .ok (.bool (frEq f g)) w := by
 have h := run_eqF f g w
 unfold Frm.v frV at h ⊢
 rw [run_eql_struct, h]
 rfl
theorem run_guardF (op : BinOp) (x y : Operand) (f g : Frm) (w : World) : (eqGuard op 34 x y f.v g.v).run Tryz.prog w = .ok () w := by
 unfold Frm.v frV
 exact run_eqGuard_agg w op 34 x y _ _ (by kernel_rfl)
section
variable {ops : Array Oper} {C : World → Prop} {a : Act} {o : Oper} {rest : List Oper}
/-- 'f != g' in a region that only reads. -/
theorem quiet_neqF {K : Act → Prop} (x y : Operand) (h : o.op = .binOp .neq 34 x y 34) (f g : Frm) (hx : a.eval x = f.v) (hy : a.eval y = g.v) {b : Bool} (hb : (!frEq f g) = b) (hk : K (a.put o.dst (.bool b))) : o.quiet Tryz.prog a C K := by
 refine ⟨.bool b, fun w _ => ?_, hk⟩
 unfold Oper.quietAt execOp
 simp only [h, hx, hy, Sem.run_bind, run_guardF, run_neqF, Result.andThen_ok, hb]
 simp only [Sem.run_pure]
 exact ⟨rfl, rfl⟩
theorem quiet_neqF_step {Q : Act → Prop} (x y : Operand) (h : o.op = .binOp .neq 34 x y 34) (hw : Region.wanted o (yielded ops a.tmps) = true) (f g : Frm) (hx : a.eval x = f.v) (hy : a.eval y = g.v) {b : Bool} (hb : (!frEq f g) = b)
  (hk : wpQuiet Tryz.prog ops C Q rest (a.put o.dst (.bool b))) : wpQuiet Tryz.prog ops C Q (o :: rest) a :=
 BigFrame.wpQuiet_want hw fun _ hK => quiet_neqF x y h f g hx hy hb (hK _ hk)
theorem wpList_neqF {W : World} {Q : Exit → Act → World → Prop} (x y : Operand) (h : o.op = .binOp .neq 34 x y 34) (hw : Region.wanted o (yielded ops a.tmps) = true) (f g : Frm) (hx : a.eval x = f.v) (hy : a.eval y = g.v) {b : Bool} (hb : (!frEq f g) = b)
  (hk : wpList Tryz.prog ops Q rest (a.put o.dst (.bool b)) W) : wpList Tryz.prog ops Q (o :: rest) a W := by
 refine wpList_step fun K hK => ?_
 rw [if_pos hw]
 unfold Oper.wp execOp
 simp only [h, hx, hy, Sem.run_bind, run_guardF, run_neqF, Result.andThen_ok, hb, Sem.run_pure]
 exact hK _ _ hk
theorem wpList_eqlF {W : World} {Q : Exit → Act → World → Prop} (x y : Operand) (h : o.op = .binOp .eql 34 x y 34) (hw : Region.wanted o (yielded ops a.tmps) = true) (f g : Frm) (hx : a.eval x = f.v) (hy : a.eval y = g.v) {b : Bool} (hb : frEq f g = b)
  (hk : wpList Tryz.prog ops Q rest (a.put o.dst (.bool b)) W) : wpList Tryz.prog ops Q (o :: rest) a W := by
 refine wpList_step fun K hK => ?_
 rw [if_pos hw]
 unfold Oper.wp execOp
 simp only [h, hx, hy, Sem.run_bind, run_guardF, run_eqlF, Result.andThen_ok, hb, Sem.run_pure]
 exact hK _ _ hk
end
end Go.Proofs.YtnlnmfkmbpihhaaGreatDoor
