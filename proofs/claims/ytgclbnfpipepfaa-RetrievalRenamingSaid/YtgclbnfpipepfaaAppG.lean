/-
  append, whatever the slice's one-cell element: at the operation, at a plain region's list, at a step of a region that draws; rows of bools that the call has made itself.
-/
import Derived.Test.YtgclbnfpipepfaaApp
namespace Go.Proofs.Ytgclbnfpipepfaa
open Go.RowKit

theorem Try.infoB : (Try.prog.info? 4).map (fun i => (i.zero, i.size, i.bytes)) = some (some (.bool false), 1, 1) := by kernel_rfl
theorem Try.infoS : (Try.prog.info? 37).map (fun i => (i.zero, i.size, i.bytes)) = some (some (.slice none 0 0), 1, 24) := by kernel_rfl

/-- Slice value v reads as these cells. -/
def VAt (w : World) (v : Value) (us : List Value) : Prop :=
  ∃ A c, v = .slice A us.length c ∧ us.length ≤ c ∧ c ≤ 9223372036854775807 ∧ ∀ j u, us[j]? = some u → ∃ ad, A = some ad ∧ w.cell? (ad.add j) = some u
theorem SlAt.vAt {α : Type} {f : α → Value} {w : World} {v : Value} {xs : List α} (h : SlAt (PlainR f) w v xs) : VAt w v (xs.map f) := by
  obtain ⟨A, c, rfl, h1, h2, h3⟩ := h
  refine ⟨A, c, by rw [List.length_map], by simpa using h1, h2, fun j u hu => ?_⟩
  rw [List.getElem?_map] at hu
  obtain ⟨x, hx, rfl⟩ := Option.map_eq_some_iff.1 hu
  obtain ⟨b, o, u, rfl, hc, rfl⟩ := h3 j x hx
  exact ⟨_, rfl, by rw [Addr.add_lit]; exact hc⟩
theorem VAt.one (w : World) (x : Value) (t : TypeId) : VAt (w.alloc (.cells #[x] t)) (.slice (some ⟨w.heap.size, 0, none⟩) 1 1) [x] :=
  ⟨_, 1, rfl, Nat.le_refl _, by omega, fun j u hu => ⟨_, rfl, cell_one_new w x t j u hu⟩⟩
theorem one_bools (xs : List Bool) : ∀ u ∈ xs.map boolV, u.oneCell' = true := by
  intro u hu
  obtain ⟨x, _, rfl⟩ := List.mem_map.1 hu
  rfl
theorem one_ints (xs : List Int) : ∀ u ∈ xs.map intV, u.oneCell' = true := by
  intro u hu
  obtain ⟨x, _, rfl⟩ := List.mem_map.1 hu
  rfl

section
variable (w : World) {TS T : TypeId} {z : Value} {b : Nat} (hT : Try.prog.underlying TS = some (.slice T)) (hinfo : (Try.prog.info? T).map (fun i => (i.zero, i.size, i.bytes)) = some (some z, 1, b)) (hz : z.cells.size = 1) (hb : b ≤ 24)
include hT hinfo

theorem run_append_nilV (B : Nat) (ty : TypeId) (v : Value) (n c : Nat) (xs : List Value) (hown : w.ownsRow B T 1 v n xs) : (Builtin.append_ #[TS, TS] ty #[v, .slice none 0 c]).run Try.prog w = .ok v w := by
  obtain ⟨i0, hi, hz0, hz1, hz2⟩ := info_parts hinfo
  rcases hown.2 with ⟨rfl, rfl⟩ | ⟨g, cap, cur, rfl, _, _, hnc, _⟩
  · simp [Builtin.append_, run_underlying hT, sizeOf, typeInfo, hi, Builtin.lenOf, Builtin.firstCells]
  · simp [Builtin.append_, run_underlying hT, sizeOf, typeInfo, hi, Builtin.lenOf, Builtin.firstCells, hnc, storeCells]

include hz hb in
theorem run_appendV (B : Nat) (ty : TypeId) (v : Value) (n : Nat) (xs : List Value) (hown : w.ownsRow B T 1 v n xs) (vx : Value) (us : List Value) (hv : VAt w vx us) (h1 : ∀ u ∈ us, u.oneCell' = true) (hn : n + us.length ≤ 1000000) (hB : B ≤ w.heap.size) :
    ∃ v' w', (Builtin.append_ #[TS, TS] ty #[v, vx]).run Try.prog w = .ok v' w' ∧ w'.ownsRow B T 1 v' (n + us.length) (xs ++ us) ∧ w.grownBy w' v.ownBlock ∧ (v'.ownBlock = v.ownBlock ∨ v'.ownBlock = some w.heap.size) := by
  obtain ⟨A, c, rfl, g1, g2, g3⟩ := hv
  cases A with
  | none =>
    have hy : us = [] := by
      cases us with
      | nil => rfl
      | cons y r => obtain ⟨_, e, _⟩ := g3 0 y rfl; cases e
    subst hy
    exact ⟨v, w, run_append_nilV w hT hinfo B ty v n c _ hown, by simpa using hown, World.grownBy.refl w _, .inl rfl⟩
  | some ad =>
    obtain ⟨i0, hi, hz0, hz1, hz2⟩ := info_parts hinfo
    obtain ⟨v', w', hr, k1, k2, _, k3⟩ := run_append_own_at (P := Try.prog) w B TS ty T i0 z 1 b hT hi hz0 hz1 hz2 hz (by decide) v n xs hown ad us.length c us (by simp)
      (fun j u hu => by obtain ⟨_, e, h⟩ := g3 j u hu; cases e; exact h) h1 (by unfold maxLen; omega) (Nat.le_trans (Nat.mul_le_mul hn hb) (by omega)) hB
    exact ⟨v', w', hr, k1, k2, k3⟩

include hz hb in
theorem wp_appendV {o : Oper} {a : Act} {K : Act → World → Prop} {Q : Exit → Act → World → Prop} (s x : Operand) (ho : o.op = .call { callee := .builtin .append, args := #[s, x], argTypes := #[TS, TS] })
    (B : Nat) (v : Value) (n : Nat) (xs : List Value) (hs : a.eval s = v) (vx : Value) (hx : a.eval x = vx) (hown : w.ownsRow B T 1 v n xs) (us : List Value) (hv : VAt w vx us) (h1 : ∀ u ∈ us, u.oneCell' = true) (hn : n + us.length ≤ 1000000) (hB : B ≤ w.heap.size)
    (h : ∀ v' w', w'.ownsRow B T 1 v' (n + us.length) (xs ++ us) → w.grownBy w' v.ownBlock → (v'.ownBlock = v.ownBlock ∨ v'.ownBlock = some w.heap.size) → Below B w w' → K (a.put o.dst v') w') : o.wp Try.prog a w K Q := by
  obtain ⟨v', w', hr, g1, g2, g3⟩ := run_appendV w hT hinfo hz hb B o.type v n xs hown vx us hv h1 hn hB
  unfold Oper.wp execOp
  simp only [ho, resolve, invoke, builtin, Sem.run_bind, Sem.run_pure, Result.andThen_ok, List.map_toArray, List.map_cons, List.map_nil, hs, hx, hr]
  exact h v' w' g1 g2 g3 ((Below.refl _ _).grown g2 hB (own_ge hown))

include hz hb in
theorem wpList_appendV {ops : Array Oper} {rest : List Oper} {o : Oper} {a : Act} {Q : Exit → Act → World → Prop} (hw : Region.wanted o (yielded ops a.tmps) = true) (s x : Operand) (ho : o.op = .call { callee := .builtin .append, args := #[s, x], argTypes := #[TS, TS] })
    (B : Nat) (v : Value) (n : Nat) (xs : List Value) (hs : a.eval s = v) (vx : Value) (hx : a.eval x = vx) (hown : w.ownsRow B T 1 v n xs) (us : List Value) (hv : VAt w vx us) (h1 : ∀ u ∈ us, u.oneCell' = true) (hn : n + us.length ≤ 1000000) (hB : B ≤ w.heap.size)
    (h : ∀ v' w', w'.ownsRow B T 1 v' (n + us.length) (xs ++ us) → w.grownBy w' v.ownBlock → (v'.ownBlock = v.ownBlock ∨ v'.ownBlock = some w.heap.size) → Below B w w' → wpList Try.prog ops Q rest (a.put o.dst v') w') : wpList Try.prog ops Q (o :: rest) a w :=
  wpList_step fun K hK => by
    simp only [hw, if_true]
    exact wp_appendV w hT hinfo hz hb s x ho B v n xs hs vx hx hown us hv h1 hn hB fun v' w' g1 g2 g3 g4 => hK _ _ (h v' w' g1 g2 g3 g4)

include hz hb in
theorem step_appendV {ops : Array Oper} {o : Oper} {a : Act} {K : Act → World → Prop} {Q : Exit → Act → World → Prop} {E : Prop} (hw : Region.wanted o (yielded ops a.tmps) = true) (s x : Operand) (ho : o.op = .call { callee := .builtin .append, args := #[s, x], argTypes := #[TS, TS] })
    (B : Nat) (v : Value) (n : Nat) (xs : List Value) (hs : a.eval s = v) (vx : Value) (hx : a.eval x = vx) (hown : w.ownsRow B T 1 v n xs) (us : List Value) (hv : VAt w vx us) (h1 : ∀ u ∈ us, u.oneCell' = true) (hn : n + us.length ≤ 1000000) (hB : B ≤ w.heap.size)
    (h : ∀ v' w', w'.ownsRow B T 1 v' (n + us.length) (xs ++ us) → w.grownBy w' v.ownBlock → (v'.ownBlock = v.ownBlock ∨ v'.ownBlock = some w.heap.size) → Below B w w' → K (a.put o.dst v') w') :
    if Region.wanted o (yielded ops a.tmps) = true then Oper.wp Try.prog o a w K Q else E := by
  rw [if_pos hw]
  exact wp_appendV w hT hinfo hz hb s x ho B v n xs hs vx hx hown us hv h1 hn hB h
end

/-! rows of bools of the call's own -/
abbrev ORow := Nat × Nat × List Bool
def rowV (x : ORow) : Value := .slice (some ⟨x.1, 0, none⟩) x.2.2.length x.2.1
structure RowsOwn (w : World) (B : Nat) (v : Value) (R : List ORow) : Prop where
  own : w.ownsRow B 37 1 v R.length (R.map rowV)
  each : ∀ x ∈ R, w.ownsRow B 4 1 (rowV x) x.2.2.length (x.2.2.map boolV) ∧ v.ownBlock ≠ some x.1
  pair : R.Pairwise fun x y => x.1 < y.1

theorem own_below' {w w' : World} {B n : Nat} {t : TypeId} {v : Value} {xs : List Value} (h : w.ownsRow B t 1 v n xs) (hb : Below w.heap.size w w') : w'.ownsRow B t 1 v n xs := by
  obtain ⟨hl, h⟩ := h
  refine ⟨hl, h.imp id ?_⟩
  rintro ⟨g, cap, cur, e, hB, hg, r⟩
  exact ⟨g, cap, cur, e, hB, (hb.block g (Array.getElem?_eq_some_iff.1 hg).1).trans hg, r⟩
theorem own_grown {w w' : World} {B n : Nat} {t : TypeId} {x : ORow} {xs : List Value} {row : Option Nat} (h : w.ownsRow B t 1 (rowV x) n xs) (hg : w.grownBy w' row) (hne : row ≠ some x.1) : w'.ownsRow B t 1 (rowV x) n xs := by
  obtain ⟨hl, h⟩ := h
  refine ⟨hl, h.imp id ?_⟩
  rintro ⟨g, cap, cur, e, hB, hh, r⟩
  have : g = x.1 := by
    have := e
    unfold rowV at this
    cases this
    rfl
  subst this
  exact ⟨x.1, cap, cur, e, hB, (hg.block x.1 (Array.getElem?_eq_some_iff.1 hh).1 hne.symm).trans hh, r⟩
theorem own_lt {w : World} {B n : Nat} {t : TypeId} {x : ORow} {xs : List Value} (h : w.ownsRow B t 1 (rowV x) n xs) : B ≤ x.1 ∧ x.1 < w.heap.size := h.lt x.1 rfl
theorem RowsOwn.nil (w : World) (B : Nat) : RowsOwn w B (.slice none 0 0) [] := ⟨World.ownsRow_nil _ _ _ _, (fun x hx => by cases hx), .nil⟩
theorem RowsOwn.below {w w' : World} {B : Nat} {v : Value} {R : List ORow} (h : RowsOwn w B v R) (hb : Below w.heap.size w w') : RowsOwn w' B v R :=
  ⟨own_below' h.own hb, fun x hx => ⟨own_below' (h.each x hx).1 hb, (h.each x hx).2⟩, h.pair⟩
theorem BoolsAt.of_own {w : World} {base n : Nat} {v : Value} {xs : List Bool} (h : w.ownsRow base 4 1 v n (xs.map boolV)) : BoolsAt w v xs := by
  obtain ⟨hl, h⟩ := h
  have hn : xs.length = n := by simpa using hl
  rcases h with ⟨rfl, h0⟩ | ⟨g, cap, cur, rfl, hb, hh, hnc, hm, hsz, htk⟩
  · have : xs = [] := List.eq_nil_of_length_eq_zero (by omega)
    subst this
    exact ⟨none, 0, rfl, Nat.le_refl _, by omega, fun i x hx => by cases hx⟩
  · refine ⟨some ⟨g, 0, none⟩, cap, by rw [hn], by omega, hm, fun i x hx => ⟨g, 0, boolV x, rfl, ?_, rfl⟩⟩
    have h2 : (xs.map boolV)[i]? = some (boolV x) := by rw [List.getElem?_map, hx]; rfl
    rw [← htk, List.getElem?_take] at h2
    split at h2
    · simp only [World.cell?, hh, Nat.zero_add]
      simpa using h2
    · cases h2
theorem RowsOwn.rows {w : World} {B : Nat} {v : Value} {R : List ORow} (h : RowsOwn w B v R) : RowsAt w v (R.map (·.2.2)) := by
  obtain ⟨hl, ho⟩ := h.own
  rcases ho with ⟨rfl, h0⟩ | ⟨g, cap, cur, rfl, hb, hh, hnc, hm, hsz, htk⟩
  · have : R = [] := List.eq_nil_of_length_eq_zero h0
    subst this
    exact ⟨none, 0, rfl, Nat.le_refl _, by omega, fun i x hx => by cases hx⟩
  · refine ⟨some ⟨g, 0, none⟩, cap, by rw [List.length_map], by simpa using hnc, hm, fun i r hr => ?_⟩
    rw [List.getElem?_map] at hr
    obtain ⟨x, hx, rfl⟩ := Option.map_eq_some_iff.1 hr
    refine ⟨g, 0, rowV x, rfl, ?_, BoolsAt.of_own (h.each x (List.mem_of_getElem? hx)).1⟩
    have h2 : (R.map rowV)[i]? = some (rowV x) := by rw [List.getElem?_map, hx]; rfl
    rw [← htk, List.getElem?_take] at h2
    split at h2
    · simp only [World.cell?, hh, Nat.zero_add]
      simpa using h2
    · cases h2
/-- One more row. -/
theorem RowsOwn.snoc {w w1 w2 : World} {B : Nat} {v v' : Value} {R : List ORow} (h : RowsOwn w B v R) (hBw : B ≤ w.heap.size) (hb : Below w.heap.size w w1) {x : ORow} (hx : w1.ownsRow w.heap.size 4 1 (rowV x) x.2.2.length (x.2.2.map boolV))
    (hown : w2.ownsRow B 37 1 v' (R.length + 1) (R.map rowV ++ [rowV x])) (hg : w1.grownBy w2 v.ownBlock) (hat : v'.ownBlock = v.ownBlock ∨ v'.ownBlock = some w1.heap.size) : RowsOwn w2 B v' (R ++ [x]) := by
  have hxl := own_lt hx
  have hvl : ∀ k, v.ownBlock = some k → k < w.heap.size := fun k hk => (h.own.lt k hk).2
  have hsz := hb.size
  have hvx : v.ownBlock ≠ some x.1 := fun e => by have := hvl _ e; omega
  refine ⟨by simpa using hown, fun y hy => ?_, ?_⟩
  · rcases List.mem_append.1 hy with hy | hy
    · have h1 := h.each y hy
      have h2 := own_lt h1.1
      refine ⟨own_grown (own_below' h1.1 hb) hg h1.2, fun e => ?_⟩
      rcases hat with a | a
      · exact h1.2 (a ▸ e)
      · rw [a] at e
        have e := Option.some.inj e
        omega
    · obtain rfl : y = x := by simpa using hy
      refine ⟨own_mono (own_grown hx hg hvx) hBw, fun e => ?_⟩
      rcases hat with a | a
      · exact hvx (a ▸ e)
      · rw [a] at e
        have e := Option.some.inj e
        omega
  · rw [List.pairwise_append]
    refine ⟨h.pair, List.pairwise_singleton _ _, fun a ha b hb => ?_⟩
    obtain rfl : b = x := by simpa using hb
    have := own_lt (h.each a ha).1
    omega
theorem own_grownV {w w' : World} {B n : Nat} {t : TypeId} {v : Value} {xs : List Value} {row : Option Nat} (h : w.ownsRow B t 1 v n xs) (hg : w.grownBy w' row) (hne : ∀ k, v.ownBlock = some k → row ≠ some k) : w'.ownsRow B t 1 v n xs := by
  obtain ⟨hl, h⟩ := h
  refine ⟨hl, h.imp id ?_⟩
  rintro ⟨g, cap, cur, rfl, hB, hh, r⟩
  exact ⟨g, cap, cur, rfl, hB, (hg.block g (Array.getElem?_eq_some_iff.1 hh).1 (hne g rfl).symm).trans hh, r⟩
/-- One block of a row becomes readable. -/
theorem RowsOwn.set {w : World} {B : Nat} {v : Value} {R : List ORow} (h : RowsOwn w B v R) (i j : Nat) {x : ORow} (hi : R[i]? = some x) : RowsOwn (w.setCell ⟨x.1, j, none⟩ (boolV true)) B v (R.set i (x.1, x.2.1, x.2.2.set j true)) := by
  obtain ⟨hx, hvx⟩ := h.each x (List.mem_of_getElem? hi)
  obtain ⟨hs1, hs2⟩ := World.ownsRow.stored (g := x.1) (cap := x.2.1) hx j (boolV true)
  rw [← List.map_set] at hs1
  have hil := (List.getElem?_eq_some_iff.1 hi).1
  have hrv : rowV (x.1, x.2.1, x.2.2.set j true) = rowV x := by unfold rowV; simp
  refine ⟨?_, fun y hy => ?_, ?_⟩
  · have e : (R.set i (x.1, x.2.1, x.2.2.set j true)).map rowV = R.map rowV := by
      rw [List.map_set, hrv]
      refine List.ext_getElem? fun k => ?_
      rw [List.getElem?_set]
      split
      · rename_i e
        subst e
        simp [hil, (List.getElem?_eq_some_iff.1 hi).2]
      · rfl
    rw [e, List.length_set]
    exact own_grownV h.own hs2 fun k hk e => hvx (hk.trans e.symm)
  · obtain ⟨k, hk⟩ := List.mem_iff_getElem?.1 hy
    rw [List.getElem?_set] at hk
    split at hk
    · cases hk
      rw [hrv]
      refine ⟨?_, hvx⟩
      show (w.setCell ⟨x.1, j, none⟩ (boolV true)).ownsRow B 4 1 (rowV x) (x.2.2.set j true).length ((x.2.2.set j true).map boolV)
      rw [List.length_set]
      exact hs1
    · rename_i hne
      have hy' := h.each y (List.mem_of_getElem? hk)
      refine ⟨own_grown hy'.1 hs2 fun e => ?_, hy'.2⟩
      have e := Option.some.inj e
      have hkl := (List.getElem?_eq_some_iff.1 hk).1
      have ey := (List.getElem?_eq_some_iff.1 hk).2
      have ex := (List.getElem?_eq_some_iff.1 hi).2
      have hp := List.pairwise_iff_getElem.1 h.pair
      rcases Nat.lt_trichotomy i k with hl | hl | hl
      · have := hp i k hil hkl hl
        rw [ex, ey] at this
        omega
      · exact hne hl
      · have := hp k i hkl hil hl
        rw [ex, ey] at this
        omega
  · have e : (R.set i (x.1, x.2.1, x.2.2.set j true)).map (·.1) = R.map (·.1) := by
      rw [List.map_set]
      refine List.ext_getElem? fun k => ?_
      rw [List.getElem?_set]
      split
      · rename_i e
        subst e
        simp [hil, (List.getElem?_eq_some_iff.1 hi).2]
      · rfl
    have := h.pair
    rw [← List.pairwise_map (f := fun x : ORow => x.1) (R := fun a b => a < b)] at this ⊢
    rw [e]
    exact this
end Go.Proofs.Ytgclbnfpipepfaa
