/-
  Joined: VoY VpA VpC ResT VpE.
-/
import Derived.Test.YthkjphebhafgoaaGreatDoorMBn05
set_option linter.all false
set_option maxRecDepth 100000
set_option maxHeartbeats 64000000
namespace Go.Proofs.YthkjphebhafgoaaGreatDoor
section
open Go.RowKit
structure Elem (P : Program) (t e : TypeId) (n bytes : Nat) (z : Value) : Prop where
 ht : P.underlying t = some (.slice e)
 hi : (P.info? e).map (fun i => (i.zero, i.size, i.bytes)) = some (some z, n, bytes)
 hz : z.cells.size = n
 hn : 0 < n
 hb : bytes ≤ 1000
def SrcAt {α : Type} (ρ : Shape α) (w0 w : World) (v : Value) (us : List α) : Prop :=
 ∃ (A : Option Addr) (c : Nat), v = .slice A us.length c ∧ ∀ i x, us[i]? = some x → ∃ b o cs, A = some ⟨b, o, none⟩ ∧ ρ.R w0 cs x ∧ ∀ j u, cs[j]? = some u → w.cell? ⟨b, o + i * ρ.n + j, none⟩ = some u
section
variable {α : Type} {ρ : Shape α} {w0 w W : World} {v : Value} {xs us : List α}
theorem SrcAt.of (h : SeqAt ρ w0 v us) (hb : Below w0.heap.size w0 w) : SrcAt ρ w0 w v us := by
 obtain ⟨A, c, e, h1, h2, h3⟩ := h
 refine ⟨A, c, e, fun i x hx => ?_⟩
 obtain ⟨b, o, cs, e1, hr, h4⟩ := h3 i x hx
 exact ⟨b, o, cs, e1, hr, fun j u hu => cell_below hb (h4 j u hu)⟩
theorem SrcAt.lit {g : Nat} {t : TypeId} {cs : List Value} {x : α} (hr : ρ.R w0 cs x) (hB : Blk w g t cs) : SrcAt ρ w0 w (.slice (some ⟨g, 0, none⟩) 1 1) [x] := by
 refine ⟨_, _, rfl, fun i y hy => ?_⟩
 cases i with
 | zero =>
  obtain rfl : x = y := by simpa using hy
  refine ⟨g, 0, cs, rfl, hr, fun j u hu => ?_⟩
  rw [Nat.zero_mul, Nat.zero_add]
  exact hB.cell hu
 | succ i => simp at hy
theorem SrcAt.cells (h : SrcAt ρ w0 w v us) (h0 : us ≠ []) : ∃ (ad : Addr) (c : Nat) (css : List (List Value)), v = .slice (some ad) us.length c ∧ Both (ρ.R w0) css us ∧ ∀ j u, css.flatten[j]? = some u → w.cell? (ad.add j) = some u := by
 obtain ⟨A, c, rfl, h⟩ := h
 have key : ∀ (l : List α) (b o : Nat), (∀ i x, l[i]? = some x → ∃ cs, ρ.R w0 cs x ∧ ∀ j u, cs[j]? = some u → w.cell? ⟨b, o + i * ρ.n + j, none⟩ = some u) → ∃ css, Both (ρ.R w0) css l ∧ ∀ j u, css.flatten[j]? = some u → w.cell? ⟨b, o + j, none⟩ = some u := by
  intro l
  induction l with
  | nil => exact fun b o _ => ⟨[], .nil, fun j u hu => by simp at hu⟩
  | cons x r ih =>
   intro b o hl
   obtain ⟨cs, hr, hc⟩ := hl 0 x rfl
   obtain ⟨css, hb, hcs⟩ := ih b (o + ρ.n) (fun i y hy => by
    obtain ⟨cs', hr', hc'⟩ := hl (i + 1) y (by simpa using hy)
    refine ⟨cs', hr', fun j u hu => ?_⟩
    rw [← hc' j u hu]
    congr 2
    rw [Nat.add_mul]
    omega)
   refine ⟨cs :: css, .cons hr hb, fun j u hu => ?_⟩
   rw [List.flatten_cons] at hu
   have hn := ρ.len hr
   by_cases hj : j < cs.length
   ·rw [List.getElem?_append_left hj] at hu
    have := hc j u hu
    rwa [Nat.zero_mul, Nat.add_zero] at this
   ·rw [List.getElem?_append_right (by omega)] at hu
    rw [← hcs _ u hu]
    congr 2
    omega
 cases us with
 | nil => exact absurd rfl h0
 | cons x r =>
  obtain ⟨b, o, _, e, _⟩ := h 0 x rfl
  cases e
  obtain ⟨css, h1, h2⟩ := key (x :: r) b o (fun i y hy => by
   obtain ⟨b', o', cs, e, hr, hc⟩ := h i y hy
   cases e
   exact ⟨cs, hr, hc⟩)
  exact ⟨_, c, css, rfl, h1, fun j u hu => by rw [Addr.add_lit]; exact h2 j u hu⟩
theorem OwnSeq.alloc {t : TypeId} (h : OwnSeq ρ t w0 W v xs) (o : Obj) : OwnSeq ρ t w0 (W.alloc o) v xs := h.below ((Below.refl _ _).alloc (Nat.le_refl _) _)
theorem OwnSeq.slice {t : TypeId} (h : OwnSeq ρ t w0 W v xs) : ∃ A c, v = .slice A xs.length c := by
 obtain ⟨_, h, _⟩ := h
 exact ownV_slice h
theorem OwnSeq.ge {t : TypeId} (h : OwnSeq ρ t w0 W v xs) : ∀ k, v.ownBlock = some k → w0.heap.size ≤ k := by
 obtain ⟨_, h, _⟩ := h
 exact ownV_ge h
theorem run_append_nilS {P : Program} {TS T : TypeId} {n : Nat} {b : Nat} {z : Value} (E : Elem P TS T n b z) (B : Nat) (ty : TypeId) (v : Value) (k c : Nat) (us : List Value) (hown : w.ownsRow B T n v k us) : (Builtin.append_ #[TS, TS] ty #[v, .slice none 0 c]).run P w = .ok v w := by
 obtain ⟨i0, hi, hz0, hz1, hz2⟩ := info_parts E.hi
 rcases hown.2 with ⟨rfl, rfl⟩ | ⟨g, cap, cur, rfl, _, _, hnc, _⟩
 ·simp [Builtin.append_, run_underlying E.ht, sizeOf, typeInfo, hi, Builtin.lenOf, Builtin.firstCells]
 ·simp [Builtin.append_, run_underlying E.ht, sizeOf, typeInfo, hi, Builtin.lenOf, Builtin.firstCells, hnc, storeCells]
theorem run_appendS {P : Program} {TS T : TypeId} {b : Nat} {z : Value} (E : Elem P TS T ρ.n b z) (ty : TypeId) (hown : OwnSeq ρ T w0 w v xs) {vx : Value} (hv : SrcAt ρ w0 w vx us) (hn : xs.length + us.length ≤ 100000000) (hB : Below w0.heap.size w0 w) :
  ∃ v' w', (Builtin.append_ #[TS, TS] ty #[v, vx]).run P w = .ok v' w' ∧ OwnSeq ρ T w0 w' v' (xs ++ us) ∧ w.grownBy w' v.ownBlock ∧ (v'.ownBlock = v.ownBlock ∨ v'.ownBlock = some w.heap.size) ∧ Below w0.heap.size w0 w' := by
 have hge := hown.ge
 obtain ⟨css, ho, hb⟩ := hown
 by_cases h0 : us = []
 ·subst h0
  obtain ⟨A, c, rfl, h⟩ := hv
  cases A with
  | none =>
   refine ⟨v, w, run_append_nilS E w0.heap.size ty v _ c _ ho, ?_, World.grownBy.refl w _, .inl rfl, hB⟩
   rw [List.append_nil]
   exact ⟨css, ho, hb⟩
  | some ad =>
   obtain ⟨i0, hi, hz0, hz1, hz2⟩ := info_parts E.hi
   obtain ⟨v', w', hr, k1, k2, _, k3⟩ := run_append_own_at (P := P) w w0.heap.size TS ty T i0 z ρ.n b E.ht hi hz0 hz1 hz2 E.hz E.hn v _ _ ho ad 0 c [] (by simp) (fun j u hu => by simp at hu) (fun u hu => nomatch hu) (by unfold maxLen; simp at hn; omega)
    (Nat.le_trans (Nat.mul_le_mul (show xs.length + 0 ≤ 100000000 by simp at hn; omega) E.hb) (by omega)) hB.size
   exact ⟨v', w', hr, ⟨css, by simpa using k1, by simpa using hb⟩, k2, k3, hB.grown k2 hB.size hge⟩
 ·obtain ⟨ad, c, cu, rfl, hbu, hc⟩ := hv.cells h0
  obtain ⟨i0, hi, hz0, hz1, hz2⟩ := info_parts E.hi
  obtain ⟨v', w', hr, k1, k2, _, k3⟩ := run_append_own_at (P := P) w w0.heap.size TS ty T i0 z ρ.n b E.ht hi hz0 hz1 hz2 E.hz E.hn v _ _ ho ad us.length c cu.flatten (by rw [flat_len hbu.lens, hbu.len]) hc hbu.ones (by unfold maxLen; omega)
   (Nat.le_trans (Nat.mul_le_mul hn E.hb) (by omega)) hB.size
  exact ⟨v', w', hr, ⟨css ++ cu, by rw [List.flatten_append, List.length_append]; exact k1, hb.app hbu⟩, k2, k3, hB.grown k2 hB.size hge⟩
theorem append_seq {P : Program} {ops : Array Oper} {rest : List Oper} {o : Oper} {a : Act} {Q : Exit → Act → World → Prop} {TS T : TypeId} {b : Nat} {z : Value} (E : Elem P TS T ρ.n b z) (hgd : o.guard = none) (s x : Operand) (ho : o.op = .call { callee := .builtin .append, args := #[s, x], argTypes := #[TS, TS] })
  (hs : a.eval s = v) (hown : OwnSeq ρ T w0 w v xs) {vx : Value} (hx : a.eval x = vx) (hv : SrcAt ρ w0 w vx us) (hn : xs.length + us.length ≤ 100000000) (hB : Below w0.heap.size w0 w)
  (h : ∀ v' w', OwnSeq ρ T w0 w' v' (xs ++ us) → w.grownBy w' v.ownBlock → Below w0.heap.size w0 w' → wpList P ops Q rest (a.put o.dst v') w') : wpList P ops Q (o :: rest) a w := by
 obtain ⟨v', w', hr, g1, g2, _, g3⟩ := run_appendS E o.type hown hv hn hB
 refine wpList_plain hgd fun K hK => ?_
 unfold Oper.wp execOp
 simp only [ho, resolve, invoke, builtin, Sem.run_bind, Sem.run_pure, Result.andThen_ok, List.map_toArray, List.map_cons, List.map_nil, hs, hx, hr]
 exact hK _ _ (h v' w' g1 g2 g3)
end
end
section
open Go.RowKit
structure Seg where
 n : Int
 d : ByteArray
def segS : Shape Seg where
 n := 2
 R _ cs x := cs = [.int .i64 x.n, .string x.d]
 len h := by rw [h]; rfl
 one h u hu := by
  rw [h] at hu
  simp only [List.mem_cons, List.not_mem_nil, or_false] at hu
  rcases hu with rfl | rfl <;> rfl
 keep h _ := h
structure Cha where
 k : Int
 path : ByteArray
 attrs : List Atr
 tgt : ByteArray
 cont : ByteArray
structure Bat where
 date : Int
 l : List Cha
structure Ses where
 num : Int
 date : Int
 prev : ByteArray
 ents : List Ent
 str : ByteArray
 sig : ByteArray
def sesS : Shape Ses where
 n := 6
 R w cs x := ∃ ve, cs = [.int .i64 x.num, .int .i64 x.date, .string x.prev, ve, .string x.str, .string x.sig] ∧ SeqAt entS w ve x.ents
 len h := by
  obtain ⟨_, rfl, _⟩ := h
  rfl
 one h u hu := by
  obtain ⟨_, rfl, h1⟩ := h
  simp only [List.mem_cons, List.not_mem_nil, or_false] at hu
  rcases hu with rfl | rfl | rfl | rfl | rfl | rfl
  any_goals rfl
  exact h1.one
 keep h hb := by
  obtain ⟨va, e, h1⟩ := h
  exact ⟨va, e, h1.below hb⟩
theorem Tryz.elemHol : Elem Tryz.prog 67 191 2 24 (.agg #[.string ⟨#[]⟩, .int .i64 0]) := ⟨Tryz.underlying67, by kernel_rfl, rfl, by decide, by decide⟩
theorem Tryz.elemEnt : Elem Tryz.prog 41 48 7 112 (.agg #[.int .i64 0, .string ⟨#[]⟩, .slice none 0 0, .string ⟨#[]⟩, .int .i64 0, .string ⟨#[]⟩, .slice none 0 0]) := ⟨Tryz.underlying41, by kernel_rfl, rfl, by decide, by decide⟩
theorem results_row_tmp {P : Program} {fn : Func} {p u : Tmp} {ty : TypeId} (h : fn.results = #[.cell p ty, .tmp u]) (tmps : Array Value) (w : World) (g : Nat) (t : TypeId) (cs : Array Value) (fr : Nat × Nat) (d : TypeDesc)
  (hp : tmps.getD p undef = .pointer (some ⟨g, 0, none⟩)) (hg : w.heap[g]? = some (.cells cs t fr))
  (hu : P.underlying ty = some d) (hd : (match d with | .struct _ | .array _ _ => true | _ => false) = true) (hi : (P.info? ty).map (·.size) = some cs.size) :
  (results fn tmps).run P w = .ok (.tuple #[.agg cs, tmps.getD u undef]) w := by
 have hp' : tmps[p]?.getD undef = .pointer (some ⟨g, 0, none⟩) := by simpa using hp
 rw [results_cell_tmp h]
 simp [hp', asAddr, Result.andThen, run_loadVar_row w g t ty cs fr d hg hu hd hi]
theorem Both.set {β γ : Type} {r : β → γ → Prop} {l : List β} {m : List γ} (h : Both r l m) {i : Nat} {x : β} {y : γ} (hr : r x y) : Both r (l.set i x) (m.set i y) := by
 induction h generalizing i with
 | nil => exact .nil
 | @cons a b l m h1 _ ih =>
  cases i with
  | zero => exact .cons hr ‹_›
  | succ i => exact .cons h1 ih
section
variable {α : Type} {ρ : Shape α} {w0 w w' W : World} {v : Value} {xs : List α}
def Flat (ρ : Shape α) : Prop := ∀ (w w' : World) (cs : List Value) (x : α), ρ.R w cs x → ρ.R w' cs x
end
end
end Go.Proofs.YthkjphebhafgoaaGreatDoor
