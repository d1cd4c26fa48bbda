/-
  append of a slice of ints (nil, empty or not) to a row of the call's own: at the operation, at a plain region's list (guarded or not), at a step of a region that draws.
-/
import Derived.Test.YtgclbnfpipepfaaOpen
namespace Go.Proofs.Ytgclbnfpipepfaa
open Go.RowKit

section
variable (w : World)
theorem run_append_nilI (B : Nat) (ty : TypeId) (v : Value) (n c : Nat) (xs : List Value) (hown : w.ownsRow B 3 1 v n xs) : (Builtin.append_ #[22, 22] ty #[v, .slice none 0 c]).run Try.prog w = .ok v w := by
  obtain ⟨i0, hi, hz0, hz1, hz2⟩ := info_parts Try.infoI
  rcases hown.2 with ⟨rfl, rfl⟩ | ⟨g, cap, cur, rfl, _, _, hnc, _⟩
  · simp [Builtin.append_, run_underlying Try.underlying22, sizeOf, typeInfo, hi, Builtin.lenOf, Builtin.firstCells]
  · simp [Builtin.append_, run_underlying Try.underlying22, sizeOf, typeInfo, hi, Builtin.lenOf, Builtin.firstCells, hnc, storeCells]

theorem run_appendI (B : Nat) (ty : TypeId) (v : Value) (n : Nat) (xs : List Int) (hown : w.ownsRow B 3 1 v n (xs.map intV)) (vx : Value) (ys : List Int) (hv : IntsAt w vx ys) (hn : n + ys.length ≤ 1000000) (hB : B ≤ w.heap.size) :
    ∃ v' w', (Builtin.append_ #[22, 22] ty #[v, vx]).run Try.prog w = .ok v' w' ∧ w'.ownsRow B 3 1 v' (n + ys.length) ((xs ++ ys).map intV) ∧ w.grownBy w' v.ownBlock := by
  have hv0 := hv
  obtain ⟨A, c, rfl, h1, h2, h3⟩ := hv
  cases A with
  | none =>
    have hy : ys = [] := by
      cases ys with
      | nil => rfl
      | cons y r => obtain ⟨_, _, _, e, _⟩ := h3 0 y rfl; cases e
    subst hy
    exact ⟨v, w, run_append_nilI w B ty v n c _ hown, by simpa using hown, World.grownBy.refl w _⟩
  | some ad =>
    obtain ⟨i0, hi, hz0, hz1, hz2⟩ := info_parts Try.infoI
    obtain ⟨v', w', hr, g1, g2, _, _⟩ := run_append_own_at (P := Try.prog) w B 22 ty 3 i0 (.int .i64 0) 1 8 Try.underlying22 hi hz0 hz1 hz2 rfl (by decide) v n (xs.map intV) hown ad ys.length c (ys.map intV) (by simp)
      (ints_cells hv0) (ints_oneCell _ _) (by unfold maxLen; omega) (by omega) hB
    exact ⟨v', w', hr, by simpa using g1, g2⟩

theorem wp_appendI {o : Oper} {a : Act} {K : Act → World → Prop} {Q : Exit → Act → World → Prop} (s x : Operand) (ho : o.op = .call { callee := .builtin .append, args := #[s, x], argTypes := #[22, 22] })
    (B : Nat) (v : Value) (n : Nat) (xs : List Int) (hs : a.eval s = v) (vx : Value) (hx : a.eval x = vx) (hown : w.ownsRow B 3 1 v n (xs.map intV)) (ys : List Int) (hv : IntsAt w vx ys) (hn : n + ys.length ≤ 1000000) (hB : B ≤ w.heap.size)
    (h : ∀ v' w', w'.ownsRow B 3 1 v' (n + ys.length) ((xs ++ ys).map intV) → Below B w w' → K (a.put o.dst v') w') : o.wp Try.prog a w K Q := by
  obtain ⟨v', w', hr, g1, g2⟩ := run_appendI w B o.type v n xs hown vx ys hv hn hB
  unfold Oper.wp execOp
  simp only [ho, resolve, invoke, builtin, Sem.run_bind, Sem.run_pure, Result.andThen_ok, List.map_toArray, List.map_cons, List.map_nil, hs, hx, hr]
  exact h v' w' g1 ((Below.refl _ _).grown g2 hB (own_ge hown))

theorem wpList_appendI {ops : Array Oper} {rest : List Oper} {o : Oper} {a : Act} {Q : Exit → Act → World → Prop} (hw : Region.wanted o (yielded ops a.tmps) = true) (s x : Operand) (ho : o.op = .call { callee := .builtin .append, args := #[s, x], argTypes := #[22, 22] })
    (B : Nat) (v : Value) (n : Nat) (xs : List Int) (hs : a.eval s = v) (vx : Value) (hx : a.eval x = vx) (hown : w.ownsRow B 3 1 v n (xs.map intV)) (ys : List Int) (hv : IntsAt w vx ys) (hn : n + ys.length ≤ 1000000) (hB : B ≤ w.heap.size)
    (h : ∀ v' w', w'.ownsRow B 3 1 v' (n + ys.length) ((xs ++ ys).map intV) → Below B w w' → wpList Try.prog ops Q rest (a.put o.dst v') w') : wpList Try.prog ops Q (o :: rest) a w :=
  wpList_step fun K hK => by
    simp only [hw, if_true]
    exact wp_appendI w s x ho B v n xs hs vx hx hown ys hv hn hB fun v' w' g1 g2 => hK _ _ (h v' w' g1 g2)

theorem step_appendI {ops : Array Oper} {o : Oper} {a : Act} {K : Act → World → Prop} {Q : Exit → Act → World → Prop} {E : Prop} (hw : Region.wanted o (yielded ops a.tmps) = true) (s x : Operand) (ho : o.op = .call { callee := .builtin .append, args := #[s, x], argTypes := #[22, 22] })
    (B : Nat) (v : Value) (n : Nat) (xs : List Int) (hs : a.eval s = v) (vx : Value) (hx : a.eval x = vx) (hown : w.ownsRow B 3 1 v n (xs.map intV)) (ys : List Int) (hv : IntsAt w vx ys) (hn : n + ys.length ≤ 1000000) (hB : B ≤ w.heap.size)
    (h : ∀ v' w', w'.ownsRow B 3 1 v' (n + ys.length) ((xs ++ ys).map intV) → Below B w w' → K (a.put o.dst v') w') :
    if Region.wanted o (yielded ops a.tmps) = true then Oper.wp Try.prog o a w K Q else E := by
  rw [if_pos hw]
  exact wp_appendI w s x ho B v n xs hs vx hx hown ys hv hn hB h
end

end Go.Proofs.Ytgclbnfpipepfaa
