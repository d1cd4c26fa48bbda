/-
  Joined: VoP VoU VoW VoY VpA VpC VpE VpF.
-/
import Derived.Test.YtbccghbngaiceaaGreatDoorMMn03
set_option linter.all false
set_option maxRecDepth 100000
set_option maxHeartbeats 64000000
namespace Go.Proofs.YtbccghbngaiceaaGreatDoor
section
open Go.RowKit
theorem strs_read {W w0 : World} {B : Nat} {v : Value} {l : List ByteArray} (h : W.ownsRow B 9 1 v l.length (l.map .string)) (_ : Below w0.heap.size w0 W) : SeqAt strS W v l := by
 rcases h.2 with ⟨rfl, h0⟩ | ⟨g, cap, cur, rfl, _, _, h1, h2, _⟩
 ·obtain rfl := List.length_eq_zero_iff.1 h0
  exact SeqAt.nil _
 ·refine ⟨_, _, rfl, h1, by unfold maxLen at h2; omega, fun i x hx => ⟨g, 0, [.string x], rfl, rfl, fun j u hu => ?_⟩⟩
  have hi : i < l.length := (List.getElem?_eq_some_iff.1 hx).1
  have hj : j = 0 := by
   have := (List.getElem?_eq_some_iff.1 hu).1
   simp at this
   omega
  subst hj
  obtain rfl : Value.string x = u := by simpa using hu
  have e : (0 : Nat) + i * strS.n + 0 = i := by show 0 + i * 1 + 0 = i; omega
  rw [e, h.cellAt i (by omega), List.getElem?_map, hx]
  rfl
theorem SeqAt.take {α : Type} {ρ : Shape α} {W : World} {A : Option Addr} {n c m : Nat} {xs : List α} (h : SeqAt ρ W (.slice A n c) xs) (hm : m ≤ xs.length) : SeqAt ρ W (.slice A m c) (xs.take m) := by
 obtain ⟨A', c', e, h1, h2, h3⟩ := h
 cases e
 have hl : (xs.take m).length = m := by rw [List.length_take]; omega
 refine ⟨_, _, by rw [hl], by rw [hl]; omega, h2, fun i x hx => h3 i x ?_⟩
 rw [List.getElem?_take] at hx
 split at hx
 ·exact hx
 ·cases hx
theorem split31_any (w : World) (s : ByteArray) (hs : s.size ≤ 1000000) : Calls Tryz.prog 210 #[.string s] w fun e w' => (∃ v, e = .returned (.tuple #[v, .int .i64 (pathE (bs s))]) ∧ (pathE (bs s) = 0 → w'.ownsRow w.heap.size 9 1 v (elemsL (bs s)).length (strsV (elemsL (bs s))))) ∧ Below w.heap.size w w' := by
 have HC := Lib.hid (fun W => path_any W s hs)
 have HE := Lib.hid (fun W => elems_any W s hs)
 obtain ⟨P, hP⟩ : ∃ P, pathE (bs s) = P := ⟨_, rfl⟩
 rw [hP] at HC ⊢
 clear hP
 go_enter Tryz.func210, Tryz.ntmps210
 go_wp2_with fail
 refine (HC.out _).mono ?_
 rintro e1 w1 ⟨rfl, hb1⟩
 have HB1 := Lib.hid hb1
 clear hb1
 by_cases h0 : P = 0
 ·subst h0
  go_wp2_with fail
  refine (HE.out _).mono ?_
  rintro e2 w2 ⟨v, rfl, ho, hb2⟩
  have HO := Lib.hid ho
  have HB2 := Lib.hid (HB1.out.trans (hb2.mono HB1.out.size))
  have hs1 := HB1.out.size
  clear ho hb2
  go_wp2_with fail
  go_ret2
  have hr : w2.ownsRow w.heap.size 9 1 v (elemsL (bs s)).length (strsV (elemsL (bs s))) := ⟨HO.out.1, HO.out.2.imp id fun ⟨g, cap, cur, e, hB, r⟩ => ⟨g, cap, cur, e, by omega, r⟩⟩
  first | exact ⟨⟨v, rfl, hr⟩, HB2.out⟩ | exact ⟨⟨v, rfl, fun _ => hr⟩, HB2.out⟩
 ·have hne : (P != 0) = true := by rw [bne_iff_ne]; exact h0
  go_wp2_with fail
  go_ret2
  exact ⟨⟨.slice none 0 0, rfl, fun h => absurd h h0⟩, HB1.out⟩
structure Hol where
 p : ByteArray
 u : Int
def holS : Shape Hol where
 n := 2
 R _ cs x := cs = [.string x.p, .int .i64 x.u]
 len h := by rw [h]; rfl
 one h u hu := by
  rw [h] at hu
  simp only [List.mem_cons, List.not_mem_nil, or_false] at hu
  rcases hu with rfl | rfl <;> rfl
 keep h _ := h
theorem Tryz.infoHolV : (Tryz.prog.info? 196).map (fun i => (i.zero, i.size, i.bytes)) = some (some (.agg #[.string ⟨#[]⟩, .int .i64 0]), 2, 24) := by kernel_rfl
def RetHols (w0 W : World) (p : List Hol → Prop) (e : Ending) : Prop := ∃ v l, e = .returned v ∧ OwnSeq holS 196 w0 W v l ∧ p l
structure Elem (P : Program) (t e : TypeId) (n bytes : Nat) (z : Value) : Prop where
 ht : P.underlying t = some (.slice e)
 hi : (P.info? e).map (fun i => (i.zero, i.size, i.bytes)) = some (some z, n, bytes)
 hz : z.cells.size = n
 hn : 0 < n
 hb : bytes ≤ 1000
def SrcAt {α : Type} (ρ : Shape α) (w0 w : World) (v : Value) (us : List α) : Prop :=
 ∃ (A : Option Addr) (c : Nat), v = .slice A us.length c ∧ ∀ i x, us[i]? = some x → ∃ b o cs, A = some ⟨b, o, none⟩ ∧ ρ.R w0 cs x ∧ ∀ j u, cs[j]? = some u → w.cell? ⟨b, o + i * ρ.n + j, none⟩ = some u
section
variable {α : Type} {ρ : Shape α} {w0 w W : World} {v : Value} {xs us : List α}
theorem SrcAt.of (h : SeqAt ρ w0 v us) (hb : Below w0.heap.size w0 w) : SrcAt ρ w0 w v us := by
 obtain ⟨A, c, e, h1, h2, h3⟩ := h
 refine ⟨A, c, e, fun i x hx => ?_⟩
 obtain ⟨b, o, cs, e1, hr, h4⟩ := h3 i x hx
 exact ⟨b, o, cs, e1, hr, fun j u hu => cell_below hb (h4 j u hu)⟩
theorem SrcAt.lit {g : Nat} {t : TypeId} {cs : List Value} {x : α} (hr : ρ.R w0 cs x) (hB : Blk w g t cs) : SrcAt ρ w0 w (.slice (some ⟨g, 0, none⟩) 1 1) [x] := by
 refine ⟨_, _, rfl, fun i y hy => ?_⟩
 cases i with
 | zero =>
  obtain rfl : x = y := by simpa using hy
  refine ⟨g, 0, cs, rfl, hr, fun j u hu => ?_⟩
  rw [Nat.zero_mul, Nat.zero_add]
  exact hB.cell hu
 | succ i => simp at hy
theorem SrcAt.cells (h : SrcAt ρ w0 w v us) (h0 : us ≠ []) : ∃ (ad : Addr) (c : Nat) (css : List (List Value)), v = .slice (some ad) us.length c ∧ Both (ρ.R w0) css us ∧ ∀ j u, css.flatten[j]? = some u → w.cell? (ad.add j) = some u := by
 obtain ⟨A, c, rfl, h⟩ := h
 have key : ∀ (l : List α) (b o : Nat), (∀ i x, l[i]? = some x → ∃ cs, ρ.R w0 cs x ∧ ∀ j u, cs[j]? = some u → w.cell? ⟨b, o + i * ρ.n + j, none⟩ = some u) → ∃ css, Both (ρ.R w0) css l ∧ ∀ j u, css.flatten[j]? = some u → w.cell? ⟨b, o + j, none⟩ = some u := by
  intro l
  induction l with
  | nil => exact fun b o _ => ⟨[], .nil, fun j u hu => by simp at hu⟩
  | cons x r ih =>
   intro b o hl
   obtain ⟨cs, hr, hc⟩ := hl 0 x rfl
   obtain ⟨css, hb, hcs⟩ := ih b (o + ρ.n) (fun i y hy => by
    obtain ⟨cs', hr', hc'⟩ := hl (i + 1) y (by simpa using hy)
    refine ⟨cs', hr', fun j u hu => ?_⟩
    rw [← hc' j u hu]
    congr 2
    rw [Nat.add_mul]
    omega)
   refine ⟨cs :: css, .cons hr hb, fun j u hu => ?_⟩
   rw [List.flatten_cons] at hu
   have hn := ρ.len hr
   by_cases hj : j < cs.length
   ·rw [List.getElem?_append_left hj] at hu
    have := hc j u hu
    rwa [Nat.zero_mul, Nat.add_zero] at this
   ·rw [List.getElem?_append_right (by omega)] at hu
    rw [← hcs _ u hu]
    congr 2
    omega
 cases us with
 | nil => exact absurd rfl h0
 | cons x r =>
  obtain ⟨b, o, _, e, _⟩ := h 0 x rfl
  cases e
  obtain ⟨css, h1, h2⟩ := key (x :: r) b o (fun i y hy => by
   obtain ⟨b', o', cs, e, hr, hc⟩ := h i y hy
   cases e
   exact ⟨cs, hr, hc⟩)
  exact ⟨_, c, css, rfl, h1, fun j u hu => by rw [Addr.add_lit]; exact h2 j u hu⟩
theorem OwnSeq.alloc {t : TypeId} (h : OwnSeq ρ t w0 W v xs) (o : Obj) : OwnSeq ρ t w0 (W.alloc o) v xs := h.below ((Below.refl _ _).alloc (Nat.le_refl _) _)
theorem OwnSeq.new {t : TypeId} (W : World) : OwnSeq ρ t W (W.alloc (.cells #[] t)) (.slice (some ⟨W.heap.size, 0, none⟩) 0 0) [] := ⟨[], ownV_new _ _ _, .nil⟩
theorem OwnSeq.slice {t : TypeId} (h : OwnSeq ρ t w0 W v xs) : ∃ A c, v = .slice A xs.length c := by
 obtain ⟨_, h, _⟩ := h
 exact ownV_slice h
theorem OwnSeq.ge {t : TypeId} (h : OwnSeq ρ t w0 W v xs) : ∀ k, v.ownBlock = some k → w0.heap.size ≤ k := by
 obtain ⟨_, h, _⟩ := h
 exact ownV_ge h
theorem run_append_nilS {P : Program} {TS T : TypeId} {n : Nat} {b : Nat} {z : Value} (E : Elem P TS T n b z) (B : Nat) (ty : TypeId) (v : Value) (k c : Nat) (us : List Value) (hown : w.ownsRow B T n v k us) : (Builtin.append_ #[TS, TS] ty #[v, .slice none 0 c]).run P w = .ok v w := by
 obtain ⟨i0, hi, hz0, hz1, hz2⟩ := info_parts E.hi
 rcases hown.2 with ⟨rfl, rfl⟩ | ⟨g, cap, cur, rfl, _, _, hnc, _⟩
 ·simp [Builtin.append_, run_underlying E.ht, sizeOf, typeInfo, hi, Builtin.lenOf, Builtin.firstCells]
 ·simp [Builtin.append_, run_underlying E.ht, sizeOf, typeInfo, hi, Builtin.lenOf, Builtin.firstCells, hnc, storeCells]
theorem run_appendS {P : Program} {TS T : TypeId} {b : Nat} {z : Value} (E : Elem P TS T ρ.n b z) (ty : TypeId) (hown : OwnSeq ρ T w0 w v xs) {vx : Value} (hv : SrcAt ρ w0 w vx us) (hn : xs.length + us.length ≤ 100000000) (hB : Below w0.heap.size w0 w) :
  ∃ v' w', (Builtin.append_ #[TS, TS] ty #[v, vx]).run P w = .ok v' w' ∧ OwnSeq ρ T w0 w' v' (xs ++ us) ∧ w.grownBy w' v.ownBlock ∧ (v'.ownBlock = v.ownBlock ∨ v'.ownBlock = some w.heap.size) ∧ Below w0.heap.size w0 w' := by
 have hge := hown.ge
 obtain ⟨css, ho, hb⟩ := hown
 by_cases h0 : us = []
 ·subst h0
  obtain ⟨A, c, rfl, h⟩ := hv
  cases A with
  | none =>
   refine ⟨v, w, run_append_nilS E w0.heap.size ty v _ c _ ho, ?_, World.grownBy.refl w _, .inl rfl, hB⟩
   rw [List.append_nil]
   exact ⟨css, ho, hb⟩
  | some ad =>
   obtain ⟨i0, hi, hz0, hz1, hz2⟩ := info_parts E.hi
   obtain ⟨v', w', hr, k1, k2, _, k3⟩ := run_append_own_at (P := P) w w0.heap.size TS ty T i0 z ρ.n b E.ht hi hz0 hz1 hz2 E.hz E.hn v _ _ ho ad 0 c [] (by simp) (fun j u hu => by simp at hu) (fun u hu => nomatch hu) (by unfold maxLen; simp at hn; omega)
    (Nat.le_trans (Nat.mul_le_mul (show xs.length + 0 ≤ 100000000 by simp at hn; omega) E.hb) (by omega)) hB.size
   exact ⟨v', w', hr, ⟨css, by simpa using k1, by simpa using hb⟩, k2, k3, hB.grown k2 hB.size hge⟩
 ·obtain ⟨ad, c, cu, rfl, hbu, hc⟩ := hv.cells h0
  obtain ⟨i0, hi, hz0, hz1, hz2⟩ := info_parts E.hi
  obtain ⟨v', w', hr, k1, k2, _, k3⟩ := run_append_own_at (P := P) w w0.heap.size TS ty T i0 z ρ.n b E.ht hi hz0 hz1 hz2 E.hz E.hn v _ _ ho ad us.length c cu.flatten (by rw [flat_len hbu.lens, hbu.len]) hc hbu.ones (by unfold maxLen; omega)
   (Nat.le_trans (Nat.mul_le_mul hn E.hb) (by omega)) hB.size
  exact ⟨v', w', hr, ⟨css ++ cu, by rw [List.flatten_append, List.length_append]; exact k1, hb.app hbu⟩, k2, k3, hB.grown k2 hB.size hge⟩
theorem append_seq {P : Program} {ops : Array Oper} {rest : List Oper} {o : Oper} {a : Act} {Q : Exit → Act → World → Prop} {TS T : TypeId} {b : Nat} {z : Value} (E : Elem P TS T ρ.n b z) (hgd : o.guard = none) (s x : Operand) (ho : o.op = .call { callee := .builtin .append, args := #[s, x], argTypes := #[TS, TS] })
  (hs : a.eval s = v) (hown : OwnSeq ρ T w0 w v xs) {vx : Value} (hx : a.eval x = vx) (hv : SrcAt ρ w0 w vx us) (hn : xs.length + us.length ≤ 100000000) (hB : Below w0.heap.size w0 w)
  (h : ∀ v' w', OwnSeq ρ T w0 w' v' (xs ++ us) → w.grownBy w' v.ownBlock → Below w0.heap.size w0 w' → wpList P ops Q rest (a.put o.dst v') w') : wpList P ops Q (o :: rest) a w := by
 obtain ⟨v', w', hr, g1, g2, _, g3⟩ := run_appendS E o.type hown hv hn hB
 refine wpList_plain hgd fun K hK => ?_
 unfold Oper.wp execOp
 simp only [ho, resolve, invoke, builtin, Sem.run_bind, Sem.run_pure, Result.andThen_ok, List.map_toArray, List.map_cons, List.map_nil, hs, hx, hr]
 exact hK _ _ (h v' w' g1 g2 g3)
theorem wp_append_seq {P : Program} {o : Oper} {a : Act} {K : Act → World → Prop} {Q : Exit → Act → World → Prop} {TS T : TypeId} {b : Nat} {z : Value} (E : Elem P TS T ρ.n b z) (s x : Operand) (ho : o.op = .call { callee := .builtin .append, args := #[s, x], argTypes := #[TS, TS] })
  (hs : a.eval s = v) (hown : OwnSeq ρ T w0 w v xs) {vx : Value} (hx : a.eval x = vx) (hv : SrcAt ρ w0 w vx us) (hn : xs.length + us.length ≤ 100000000) (hB : Below w0.heap.size w0 w)
  (h : ∀ v' w', OwnSeq ρ T w0 w' v' (xs ++ us) → w.grownBy w' v.ownBlock → Below w0.heap.size w0 w' → K (a.put o.dst v') w') : o.wp P a w K Q := by
 obtain ⟨v', w', hr, g1, g2, _, g3⟩ := run_appendS E o.type hown hv hn hB
 unfold Oper.wp execOp
 simp only [ho, resolve, invoke, builtin, Sem.run_bind, Sem.run_pure, Result.andThen_ok, List.map_toArray, List.map_cons, List.map_nil, hs, hx, hr]
 exact h v' w' g1 g2 g3
end
end
section
open Go.RowKit
structure Seg where
 n : Int
 d : ByteArray
def segS : Shape Seg where
 n := 2
 R _ cs x := cs = [.int .i64 x.n, .string x.d]
 len h := by rw [h]; rfl
 one h u hu := by
  rw [h] at hu
  simp only [List.mem_cons, List.not_mem_nil, or_false] at hu
  rcases hu with rfl | rfl <;> rfl
 keep h _ := h
structure Cha where
 k : Int
 path : ByteArray
 attrs : List Atr
 tgt : ByteArray
 cont : ByteArray
structure Bat where
 date : Int
 l : List Cha
structure Ses where
 num : Int
 date : Int
 prev : ByteArray
 ents : List Ent
 str : ByteArray
 sig : ByteArray
def sesS : Shape Ses where
 n := 6
 R w cs x := ∃ ve, cs = [.int .i64 x.num, .int .i64 x.date, .string x.prev, ve, .string x.str, .string x.sig] ∧ SeqAt entS w ve x.ents
 len h := by
  obtain ⟨_, rfl, _⟩ := h
  rfl
 one h u hu := by
  obtain ⟨_, rfl, h1⟩ := h
  simp only [List.mem_cons, List.not_mem_nil, or_false] at hu
  rcases hu with rfl | rfl | rfl | rfl | rfl | rfl
  any_goals rfl
  exact h1.one
 keep h hb := by
  obtain ⟨va, e, h1⟩ := h
  exact ⟨va, e, h1.below hb⟩
theorem Tryz.elemHol : Elem Tryz.prog 67 196 2 24 (.agg #[.string ⟨#[]⟩, .int .i64 0]) := ⟨Tryz.underlying67, by kernel_rfl, rfl, by decide, by decide⟩
theorem Tryz.elemEnt : Elem Tryz.prog 41 48 7 112 (.agg #[.int .i64 0, .string ⟨#[]⟩, .slice none 0 0, .string ⟨#[]⟩, .int .i64 0, .string ⟨#[]⟩, .slice none 0 0]) := ⟨Tryz.underlying41, by kernel_rfl, rfl, by decide, by decide⟩
theorem src1 {α : Type} {ρ : Shape α} {w0 wr : World} {t : TypeId} (cs : List Value) (x : α) {o : Obj} (h : ρ.R w0 cs x) (ho : o = .cells cs.toArray t) : SrcAt ρ w0 (wr.alloc o) (.slice (some ⟨wr.heap.size, 0, none⟩) 1 1) [x] := by
 subst ho
 exact SrcAt.lit h (Blk.new _ _ _)
theorem Both.set {β γ : Type} {r : β → γ → Prop} {l : List β} {m : List γ} (h : Both r l m) {i : Nat} {x : β} {y : γ} (hr : r x y) : Both r (l.set i x) (m.set i y) := by
 induction h generalizing i with
 | nil => exact .nil
 | @cons a b l m h1 _ ih =>
  cases i with
  | zero => exact .cons hr ‹_›
  | succ i => exact .cons h1 ih
section
variable {α : Type} {ρ : Shape α} {w0 w w' W : World} {v : Value} {xs : List α}
def Flat (ρ : Shape α) : Prop := ∀ (w w' : World) (cs : List Value) (x : α), ρ.R w cs x → ρ.R w' cs x
end
end
section
open Go.RowKit
theorem flatX : Flat extS := fun _ _ _ _ h => h
theorem flatH : Flat holS := fun _ _ _ _ h => h
section
variable {α : Type} {ρ : Shape α} {w0 w1 w w' W : World} {v : Value} {xs : List α}
theorem OwnSeq.low {t : TypeId} (h : OwnSeq ρ t w1 W v xs) (hF : Flat ρ) (hs : w0.heap.size ≤ w1.heap.size) : OwnSeq ρ t w0 W v xs := by
 obtain ⟨css, ho, hb⟩ := h
 exact ⟨css, ⟨ho.1, ho.2.imp id fun ⟨g, cap, cur, e, hB, r⟩ => ⟨g, cap, cur, e, by omega, r⟩⟩, hb.mono fun _ _ h => hF _ _ _ _ h⟩
theorem OwnSeq.lt {t : TypeId} (h : OwnSeq ρ t w0 W v xs) {g : Nat} (hg : v.ownBlock = some g) : g < W.heap.size := by
 obtain ⟨css, ho, _⟩ := h
 exact (ho.lt g hg).2
end
theorem append_seqO {α : Type} {ρ : Shape α} {w0 w : World} {v : Value} {xs us : List α} {P : Program} {ops : Array Oper} {rest : List Oper} {o : Oper} {a : Act} {Q : Exit → Act → World → Prop} {TS T : TypeId} {b : Nat} {z : Value} (E : Elem P TS T ρ.n b z) (hgd : o.guard = none) (s x : Operand) (ho : o.op = .call { callee := .builtin .append, args := #[s, x], argTypes := #[TS, TS] })
  (hs : a.eval s = v) (hown : OwnSeq ρ T w0 w v xs) {vx : Value} (hx : a.eval x = vx) (hv : SrcAt ρ w0 w vx us) (hn : xs.length + us.length ≤ 100000000) (hB : Below w0.heap.size w0 w)
  (h : ∀ v' w', OwnSeq ρ T w0 w' v' (xs ++ us) → w.grownBy w' v.ownBlock → (v'.ownBlock = v.ownBlock ∨ v'.ownBlock = some w.heap.size) → Below w0.heap.size w0 w' → wpList P ops Q rest (a.put o.dst v') w') : wpList P ops Q (o :: rest) a w := by
 obtain ⟨v', w', hr, g1, g2, g4, g3⟩ := run_appendS E o.type hown hv hn hB
 refine wpList_plain hgd fun K hK => ?_
 unfold Oper.wp execOp
 simp only [ho, resolve, invoke, builtin, Sem.run_bind, Sem.run_pure, Result.andThen_ok, List.map_toArray, List.map_cons, List.map_nil, hs, hx, hr]
 exact hK _ _ (h v' w' g1 g2 g4 g3)
theorem grownBy_below {w w' : World} {r : Option Nat} (h : Below w.heap.size w w') : w.grownBy w' r := ⟨h.os, h.tape, h.output, h.size, fun k hk _ => h.block k hk⟩
theorem grownBy_trans {a b c : World} {r : Option Nat} (h : a.grownBy b r) (k : b.grownBy c r) : a.grownBy c r :=
 ⟨k.os.trans h.os, k.tape.trans h.tape, k.output.trans h.output, Nat.le_trans h.size k.size, fun i hi hn => (k.block i (Nat.lt_of_lt_of_le hi h.size) hn).trans (h.block i hi hn)⟩
end
end Go.Proofs.YtbccghbngaiceaaGreatDoor
