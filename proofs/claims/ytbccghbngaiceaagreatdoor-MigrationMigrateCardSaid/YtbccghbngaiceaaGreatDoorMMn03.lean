/-
  Joined: VoA VoB VoC VoE VoF VoG VoH VoD VoI.
-/
import Derived.Test.YtbccghbngaiceaaGreatDoorMMn02
set_option linter.all false
set_option maxRecDepth 100000
set_option maxHeartbeats 64000000
namespace Go.Proofs.YtbccghbngaiceaaGreatDoor
section
open Go.RowKit
theorem ownV_below {w w' : World} {B n size : Nat} {t : TypeId} {v : Value} {xs : List Value} (h : w.ownsRow B t size v n xs) (hb : Below w.heap.size w w') : w'.ownsRow B t size v n xs :=
 ⟨h.1, h.2.imp id fun ⟨g, cap, cur, e, hB, hh, r⟩ => ⟨g, cap, cur, e, hB, (hb.block g (Array.getElem?_eq_some_iff.1 hh).1).trans hh, r⟩⟩
theorem ownV_ge {w : World} {B n size : Nat} {t : TypeId} {v : Value} {xs : List Value} (h : w.ownsRow B t size v n xs) : ∀ k, v.ownBlock = some k → B ≤ k := fun k hk => (h.lt k hk).1
theorem ownV_slice {W : World} {B n size : Nat} {t : TypeId} {v : Value} {xs : List Value} (h : W.ownsRow B t size v n xs) : ∃ A c, v = .slice A n c := by
 rcases h.2 with ⟨e, rfl⟩ | ⟨g, cap, _, e, _⟩
 ·exact ⟨_, _, e⟩
 ·exact ⟨_, _, e⟩
theorem ownV_at {W : World} {B n size : Nat} {t : TypeId} {v : Value} {xs : List Value} (h : W.ownsRow B t size v n xs) (hn : 0 < n) : ∃ g c, v = .slice (some ⟨g, 0, none⟩) n c ∧ B ≤ g := by
 rcases h.2 with ⟨e, h0⟩ | ⟨g, cap, _, e, hb, _⟩
 ·omega
 ·exact ⟨_, _, e, hb⟩
theorem ownV_new (W : World) (t : TypeId) (n : Nat) : (W.alloc (.cells #[] t)).ownsRow W.heap.size t n (.slice (some ⟨W.heap.size, 0, none⟩) 0 0) 0 [] := by
 refine ⟨by simp, .inr ⟨W.heap.size, 0, #[], rfl, Nat.le_refl _, ?_, Nat.le_refl _, by decide, by simp, by simp⟩⟩
 show (W.heap.push (Obj.cells #[] t))[W.heap.size]? = _
 exact Array.getElem?_push_size
theorem toListV {s : ByteArray} {l : List UInt8} : s.toList = l ↔ s = ⟨l.toArray⟩ := by
 rw [ByteArray.toList_eq]
 constructor
 ·intro h
  apply ByteArray.ext
  rw [← h]
 ·rintro rfl
  rfl
theorem isEmptyV {s : ByteArray} (h : s.size ≠ 0) : s.toList.isEmpty = false := by
 rw [ByteArray.toList_eq]
 cases e : s.data.toList with
 | nil =>
  have : s.data.toList.length = 0 := by rw [e]; rfl
  rw [Array.length_toList] at this
  exact absurd this h
 | cons => rfl
theorem beqV_true {a b : ByteArray} (h : a = b) : (a == b) = true := (Go.MapKept.bytes_beq a b).2 h
theorem beqV_false {a b : ByteArray} (h : a ≠ b) : (a == b) = false := by
 cases e : (a == b) with
 | true => exact absurd ((Go.MapKept.bytes_beq a b).1 e) h
 | false => rfl
theorem bneV_true {a b : ByteArray} (h : a ≠ b) : (a != b) = true := by rw [bne, beqV_false h]; rfl
theorem bneV_false {a b : ByteArray} (h : a = b) : (a != b) = false := by rw [bne, beqV_true h]; rfl
theorem ownV_nil (W : World) (B size : Nat) (t : TypeId) : W.ownsRow B t size (.slice none 0 0) 0 [] := ⟨by simp, .inl ⟨rfl, rfl⟩⟩
theorem append_atV {P : Program} {ops : Array Oper} {rest : List Oper} {o : Oper} {a : Act} {Q : Exit → Act → World → Prop} (w : World) (hgd : o.guard = none) (s x : Operand) (t : TypeId) (ho : o.op = .call { callee := .builtin .append, args := #[s, x], argTypes := #[t, t] })
  (base : Nat) (e : TypeId) (i : TypeInfo) (z : Value) (size bytes : Nat) (ht : P.underlying t = some (.slice e)) (hi : P.info? e = some i) (hz : i.zero = some z) (hsize : i.size = size) (hby : i.bytes = bytes) (hzs : z.cells.size = size) (hsz : 0 < size)
  (v : Value) (n : Nat) (xs : List Value) (hs : a.eval s = v) (hown : w.ownsRow base e size v n xs) (ad : Addr) (m c : Nat) (news : List Value) (hx : a.eval x = .slice (some ad) m c) (hl : news.length = m * size)
  (hnews : ∀ j u, news[j]? = some u → w.cell? (ad.add j) = some u) (h1 : ∀ u ∈ news, u.oneCell' = true) (h63 : n + m ≤ maxLen) (hbytes : (n + m) * bytes ≤ 140737488355328) (hbase : base ≤ w.heap.size)
  (h : ∀ v' w', w'.ownsRow base e size v' (n + m) (xs ++ news) → w.grownBy w' v.ownBlock → (v'.ownBlock = v.ownBlock ∨ v'.ownBlock = some w.heap.size) → wpList P ops Q rest (a.put o.dst v') w') : wpList P ops Q (o :: rest) a w := by
 obtain ⟨v', w', hr, g1, g2, _, g3⟩ := run_append_own_at (P := P) w base t o.type e i z size bytes ht hi hz hsize hby hzs hsz v n xs hown ad m c news hl hnews h1 h63 hbytes hbase
 refine wpList_plain hgd fun K hK => ?_
 unfold Oper.wp execOp
 simp only [ho, resolve, invoke, builtin, Sem.run_bind, Sem.run_pure, Result.andThen_ok, List.map_toArray, List.map_cons, List.map_nil, hs, hx, hr]
 exact hK _ _ (h v' w' g1 g2 g3)
structure Shape (α : Type) where
 n : Nat
 R : World → List Value → α → Prop
 len : ∀ {w cs x}, R w cs x → cs.length = n
 one : ∀ {w cs x}, R w cs x → ∀ u ∈ cs, u.oneCell' = true
 keep : ∀ {w w' cs x}, R w cs x → Below w.heap.size w w' → R w' cs x
def SeqAt {α : Type} (ρ : Shape α) (W : World) (v : Value) (xs : List α) : Prop :=
 ∃ (A : Option Addr) (c : Nat), v = .slice A xs.length c ∧ xs.length ≤ c ∧ c ≤ 9223372036854775807 ∧
  ∀ i x, xs[i]? = some x → ∃ b o cs, A = some ⟨b, o, none⟩ ∧ ρ.R W cs x ∧ ∀ j u, cs[j]? = some u → W.cell? ⟨b, o + i * ρ.n + j, none⟩ = some u
section
variable {α : Type} {ρ : Shape α} {w w' W : World} {v : Value} {xs : List α}
theorem SeqAt.below (h : SeqAt ρ w v xs) (hb : Below w.heap.size w w') : SeqAt ρ w' v xs := by
 obtain ⟨A, c, e, h1, h2, h3⟩ := h
 refine ⟨A, c, e, h1, h2, fun i x hx => ?_⟩
 obtain ⟨b, o, cs, e1, hr, h4⟩ := h3 i x hx
 exact ⟨b, o, cs, e1, ρ.keep hr hb, fun j u hu => cell_below hb (h4 j u hu)⟩
theorem SeqAt.nil (w : World) : SeqAt ρ w (.slice none 0 0) [] := ⟨none, 0, rfl, Nat.le_refl _, by decide, fun i x h => by simp at h⟩
theorem SeqAt.one (h : SeqAt ρ w v xs) : v.oneCell' = true := by
 obtain ⟨A, c, rfl, _⟩ := h
 rfl
theorem SeqAt.slice (h : SeqAt ρ w v xs) : ∃ A c, v = .slice A xs.length c ∧ xs.length ≤ c ∧ c ≤ 9223372036854775807 := by
 obtain ⟨A, c, e, h1, h2, _⟩ := h
 exact ⟨A, c, e, h1, h2⟩
inductive Both {β γ : Type} (r : β → γ → Prop) : List β → List γ → Prop
 | nil : Both r [] []
 | cons {x y xs ys} : r x y → Both r xs ys → Both r (x :: xs) (y :: ys)
theorem Both.len {β γ : Type} {r : β → γ → Prop} {l : List β} {m : List γ} (h : Both r l m) : l.length = m.length := by
 induction h with
 | nil => rfl
 | cons _ _ ih => rw [List.length_cons, List.length_cons, ih]
theorem Both.mono {β γ : Type} {r s : β → γ → Prop} {l : List β} {m : List γ} (h : Both r l m) (hs : ∀ x y, r x y → s x y) : Both s l m := by
 induction h with
 | nil => exact .nil
 | cons h1 _ ih => exact .cons (hs _ _ h1) ih
theorem Both.app {β γ : Type} {r : β → γ → Prop} {l l' : List β} {m m' : List γ} (h : Both r l m) (h' : Both r l' m') : Both r (l ++ l') (m ++ m') := by
 induction h with
 | nil => exact h'
 | cons h1 _ ih => exact .cons h1 ih
theorem Both.at {β γ : Type} {r : β → γ → Prop} {l : List β} {m : List γ} (h : Both r l m) : ∀ {i : Nat} {y : γ}, m[i]? = some y → ∃ x, l[i]? = some x ∧ r x y := by
 induction h with
 | nil => intro i y hy; simp at hy
 | @cons x z l m h1 _ ih =>
  intro i y hy
  cases i with
  | zero =>
   obtain rfl : z = y := by simpa using hy
   exact ⟨x, rfl, h1⟩
  | succ i => exact ih (i := i) (by simpa using hy)
theorem flat_get {n : Nat} : ∀ {css : List (List Value)} {i : Nat} {cs : List Value}, (∀ c ∈ css, c.length = n) → css[i]? = some cs → ∀ j, j < n → css.flatten[i * n + j]? = cs[j]?
 | [], _, _, _, h, _, _ => by simp at h
 | c :: r, 0, cs, hl, h, j, hj => by
  obtain rfl : c = cs := by simpa using h
  rw [List.flatten_cons, List.getElem?_append_left (by rw [hl c List.mem_cons_self]; omega)]
  simp
 | c :: r, i + 1, cs, hl, h, j, hj => by
  have hc := hl c List.mem_cons_self
  rw [List.flatten_cons, List.getElem?_append_right (by rw [hc, Nat.add_mul]; omega), show (i + 1) * n + j - c.length = i * n + j by rw [hc, Nat.add_mul]; omega]
  exact flat_get (fun x hx => hl x (List.mem_cons_of_mem _ hx)) (by simpa using h) j hj
theorem flat_len {n : Nat} : ∀ {css : List (List Value)}, (∀ c ∈ css, c.length = n) → css.flatten.length = css.length * n
 | [], _ => by simp
 | c :: r, hl => by
  rw [List.flatten_cons, List.length_append, flat_len fun x hx => hl x (List.mem_cons_of_mem _ hx), hl c List.mem_cons_self, List.length_cons, Nat.add_mul]
  omega
theorem Both.lens {w0 : World} {css : List (List Value)} (h : Both (ρ.R w0) css xs) : ∀ c ∈ css, c.length = ρ.n := by
 induction h with
 | nil => intro c hc; cases hc
 | cons h1 _ ih =>
  intro c hc
  rcases List.mem_cons.1 hc with rfl | hc
  ·exact ρ.len h1
  ·exact ih c hc
theorem Both.ones {w0 : World} {css : List (List Value)} (h : Both (ρ.R w0) css xs) : ∀ u ∈ css.flatten, u.oneCell' = true := by
 induction h with
 | nil => intro u hu; simp at hu
 | cons h1 _ ih =>
  intro u hu
  rw [List.flatten_cons] at hu
  rcases List.mem_append.1 hu with hu | hu
  ·exact ρ.one h1 u hu
  ·exact ih u hu
def OwnSeq (ρ : Shape α) (t : TypeId) (w0 W : World) (v : Value) (xs : List α) : Prop :=
 ∃ css, W.ownsRow w0.heap.size t ρ.n v xs.length css.flatten ∧ Both (ρ.R w0) css xs
theorem OwnSeq.nil {t : TypeId} {w0 : World} (W : World) : OwnSeq ρ t w0 W (.slice none 0 0) [] := ⟨[], ownV_nil _ _ _ _, .nil⟩
theorem OwnSeq.at {t : TypeId} {w0 : World} (h : OwnSeq ρ t w0 W v xs) (hb : Below w0.heap.size w0 W) : SeqAt ρ W v xs := by
 obtain ⟨css, h, hB⟩ := h
 rcases h.2 with ⟨rfl, h0⟩ | ⟨g, cap, cur, rfl, _, _, h1, h2, _⟩
 ·obtain rfl := List.length_eq_zero_iff.1 h0
  exact SeqAt.nil _
 ·refine ⟨_, _, rfl, h1, by unfold maxLen at h2; omega, fun i x hx => ?_⟩
  obtain ⟨cs, hcs, hr⟩ := hB.at hx
  refine ⟨g, 0, cs, rfl, ρ.keep hr hb, fun j u hu => ?_⟩
  have hj : j < ρ.n := by
   have := (List.getElem?_eq_some_iff.1 hu).1
   rwa [ρ.len hr] at this
  have hi : i < xs.length := (List.getElem?_eq_some_iff.1 hx).1
  have hm : (i + 1) * ρ.n ≤ xs.length * ρ.n := Nat.mul_le_mul (by omega) (Nat.le_refl _)
  rw [Nat.add_mul, Nat.one_mul] at hm
  rw [Nat.zero_add, h.cellAt (i * ρ.n + j) (by omega), flat_get hB.lens hcs j hj, hu]
theorem OwnSeq.below {t : TypeId} {w0 : World} (h : OwnSeq ρ t w0 W v xs) (hb : Below W.heap.size W w') : OwnSeq ρ t w0 w' v xs := by
 obtain ⟨css, h, hB⟩ := h
 exact ⟨css, ownV_below h hb, hB⟩
end
def strS : Shape ByteArray where
 n := 1
 R _ cs s := cs = [.string s]
 len h := by rw [h]; rfl
 one h u hu := by rw [h] at hu; rw [List.mem_singleton.1 hu]; rfl
 keep h _ := h
structure Atr where
 k : ByteArray
 v : ByteArray
def atrS : Shape Atr where
 n := 2
 R _ cs x := cs = [.string x.k, .string x.v]
 len h := by rw [h]; rfl
 one h u hu := by
  rw [h] at hu
  simp only [List.mem_cons, List.not_mem_nil, or_false] at hu
  rcases hu with rfl | rfl <;> rfl
 keep h _ := h
structure Ext where
 s : Int
 o : Int
 l : Int
def extS : Shape Ext where
 n := 3
 R _ cs x := cs = [.int .i64 x.s, .int .i64 x.o, .int .i64 x.l]
 len h := by rw [h]; rfl
 one h u hu := by
  rw [h] at hu
  simp only [List.mem_cons, List.not_mem_nil, or_false] at hu
  rcases hu with rfl | rfl | rfl <;> rfl
 keep h _ := h
structure Ent where
 k : Int
 path : ByteArray
 attrs : List Atr
 tgt : ByteArray
 size : Int
 dig : ByteArray
 exts : List Ext
def entS : Shape Ent where
 n := 7
 R w cs x := ∃ va vx, cs = [.int .i64 x.k, .string x.path, va, .string x.tgt, .int .i64 x.size, .string x.dig, vx] ∧ SeqAt atrS w va x.attrs ∧ SeqAt extS w vx x.exts
 len h := by
  obtain ⟨_, _, rfl, _⟩ := h
  rfl
 one h u hu := by
  obtain ⟨_, _, rfl, h1, h2⟩ := h
  simp only [List.mem_cons, List.not_mem_nil, or_false] at hu
  rcases hu with rfl | rfl | rfl | rfl | rfl | rfl | rfl
  any_goals rfl
  ·exact h1.one
  ·exact h2.one
 keep h hb := by
  obtain ⟨va, vx, e, h1, h2⟩ := h
  exact ⟨va, vx, e, h1.below hb, h2.below hb⟩
end
section
open Go.RowKit
theorem Tryz.infoStrV : (Tryz.prog.info? 9).map (fun i => (i.zero, i.size, i.bytes)) = some (some (.string ⟨#[]⟩), 1, 16) := by kernel_rfl
theorem infoV_parts {o : Option TypeInfo} {z : Option Value} {n m : Nat} (h : o.map (fun i => (i.zero, i.size, i.bytes)) = some (z, n, m)) : ∃ i, o = some i ∧ i.zero = z ∧ i.size = n ∧ i.bytes = m := by
 cases o with
 | none => cases h
 | some i =>
  simp only [Option.map_some, Option.some.injEq, Prod.mk.injEq] at h
  exact ⟨i, rfl, h.1, h.2.1, h.2.2⟩
def splitG : List Nat → List Nat → List (List Nat)
 | p, [] => [p]
 | p, c :: r => if c = 47 then p :: splitG [] r else splitG (p ++ [c]) r
def elemsL (s : List Nat) : List (List Nat) := if s = [] then [] else splitG [] s
theorem splitG_sum : ∀ (r p : List Nat), (∀ x ∈ splitG p r, x.length ≤ p.length + r.length) ∧ (splitG p r).length ≤ r.length + 1
 | [], p => by simp [splitG]
 | c :: r, p => by
  rw [splitG]
  split
  ·obtain ⟨h1, h2⟩ := splitG_sum r []
   refine ⟨fun x hx => ?_, by simp; omega⟩
   rcases List.mem_cons.1 hx with rfl | hx
   ·omega
   ·have := h1 x hx
    simp at this ⊢
    omega
  ·obtain ⟨h1, h2⟩ := splitG_sum r (p ++ [c])
   refine ⟨fun x hx => ?_, by simp; omega⟩
   have := h1 x hx
   simp at this ⊢
   omega
theorem elemsL_size {s : List Nat} : (∀ x ∈ elemsL s, x.length ≤ s.length) ∧ (elemsL s).length ≤ s.length + 1 := by
 unfold elemsL
 split
 ·simp
 ·have := splitG_sum s []
  simpa using this
def strsV (l : List (List Nat)) : List Value := l.map fun p => .string (strB p)
theorem strsV_app (l m : List (List Nat)) : strsV (l ++ m) = strsV l ++ strsV m := by unfold strsV; rw [List.map_append]
theorem elems_any (w : World) (s : ByteArray) (hs : s.size ≤ 1000000) : Calls Tryz.prog 209 #[.string s] w fun e w' => ∃ v, e = .returned v ∧ w'.ownsRow w.heap.size 9 1 v (elemsL (bs s)).length (strsV (elemsL (bs s))) ∧ Below w.heap.size w w' := by
 obtain ⟨R, hR⟩ : ∃ R, elemsL (bs s) = R := ⟨_, rfl⟩
 rw [hR]
 obtain ⟨iS, hi, hq0, hq1, hq2⟩ := infoV_parts Tryz.infoStrV
 have HiS : Hid (Tryz.prog.info? 9 = some iS ∧ iS.zero = some (.string ⟨#[]⟩) ∧ iS.size = 1 ∧ iS.bytes = 16) := Lib.hid ⟨hi, hq0, hq1, hq2⟩
 clear hi hq0 hq1 hq2
 by_cases h0 : s.size = 0
 ·have e0 : s = ⟨#[]⟩ := by
   apply ByteArray.ext
   exact Array.eq_empty_of_size_eq_zero h0
  subst e0
  have HR : Hid (R = []) := Lib.hid (by rw [← hR]; rfl)
  clear hR h0
  go_enter Tryz.func209, Tryz.ntmps209
  go_wp2
  go_ret
  refine ⟨_, rfl, ?_, (Below.refl _ _).alloc (Nat.le_refl _) _⟩
  rw [HR.out]
  exact ownV_new _ _ _
 ·have hb0 : s.toList.isEmpty = false := isEmptyV h0
  have HR : Hid (splitG [] (bs s) = R) := Lib.hid (by
   rw [← hR, elemsL, if_neg]
   intro e
   have := congrArg List.length e
   rw [bs_len] at this
   exact h0 (by simpa using this))
  clear hR
  go_enter Tryz.func209, Tryz.ntmps209
  go_wp2
  go_loopw [3, 4, 5] (fun v y x wr => ∃ (k : Nat) (p : List Nat) (l : List (List Nat)), k ≤ s.size ∧ x = .int .i64 (k : Int) ∧ y = .string (strB p) ∧ p.length ≤ k ∧ l.length ≤ k ∧ l ++ splitG p ((bs s).drop k) = R ∧ wr.ownsRow w.heap.size 9 1 v l.length (strsV l) ∧ Below w.heap.size w wr) (fun _ _ x _ => s.size - (intOf x).toNat)
  case atStart => exact ⟨0, [], [], by omega, rfl, rfl, by simp, by simp, by rw [List.drop_zero]; exact HR.out, ownV_new _ _ _, (Below.refl _ _).alloc (Nat.le_refl _) _⟩
  case round =>
   obtain ⟨k, p, l, hk, rfl, rfl, hp, hl, hE, ho, hB⟩ := hrel
   have HE := Lib.hid hE
   have Ho := Lib.hid ho
   have HB := Lib.hid hB
   clear hE ho hB
   obtain ⟨Av, cv, rfl⟩ := ownV_slice Ho.out
   obtain ⟨S, hS⟩ : ∃ S, strB p = S := ⟨_, rfl⟩
   have hSz : S.size = p.length := by rw [← hS, strB_size]
   have HS := Lib.hid hS
   rw [hS]
   clear hS
   have Hnews : Hid (∀ (q : Nat) (x : Value), ([.string S] : List Value)[q]? = some x → (wr.alloc (.cells #[.string S] 9)).cell? ((⟨wr.heap.size, 0, none⟩ : Addr).add q) = some x) := Lib.hid (fun q x hq => by
    rw [Addr.add_lit, Nat.zero_add]
    exact (Blk.new wr 9 [.string S]).cell hq)
   have Hone : Hid (∀ x ∈ ([.string S] : List Value), x.oneCell' = true) := Lib.hid (by simp [Value.oneCell'])
   have HU := Lib.hid (Ho.out.alloc (.cells #[.string S] 9))
   have HB6 := Lib.hid (HB.out.alloc HB.out.size (.cells #[.string S] 9))
   by_cases h : k < s.size
   ·have hkI : (k : Int) < s.size := by omega
    have HX := Lib.hid (bsc s k h)
    have hd : (bs s).drop k = (s[k]'h).toNat :: (bs s).drop (k + 1) := by
     rw [List.drop_eq_getElem_cons (by rw [bs_len]; exact h)]
     congr 1
     rw [← HX.out, cf_get (List.getElem?_eq_getElem _)]
    by_cases h47 : (s[k]'h).toNat = 47
    ·have e1 : (((s[k]'h).toNat : Int) == 47) = true := by rw [h47]; rfl
     have HE2 : Hid ((l ++ [p]) ++ splitG [] ((bs s).drop (k + 1)) = R) := Lib.hid (by
      rw [← HE.out, hd, splitG, if_pos h47, List.append_assoc]
      rfl)
     clear hd HX
     go_wp2_with (at_builtin; refine append_atV _ rfl _ _ 56 rfl w.heap.size 9 iS (.string ⟨#[]⟩) 1 16 Tryz.underlying56 HiS.out.1 HiS.out.2.1 HiS.out.2.2.1 HiS.out.2.2.2 rfl (by omega) (.slice Av l.length cv) l.length _ rfl HU.out ⟨wr.heap.size, 0, none⟩ 1 1 _ rfl rfl Hnews.out Hone.out (by unfold maxLen; omega) (by omega) HB6.out.size ?_; intro va wa hob hgb _; have KU := Lib.hid hob; have KB := Lib.hid (HB6.out.grown hgb HB6.out.size (ownV_ge HU.out)); clear hob hgb)
     go_roundw
     case rel => exact ⟨k + 1, [], l ++ [p], by omega, by go_num, rfl, by simp, by simp; omega, HE2.out, by rw [List.length_append, strsV_app, show strsV [p] = [.string S] by rw [← HS.out]; rfl]; exact KU.out, KB.out⟩
     case measure => simp [intOf]; omega
    ·have e1 : (((s[k]'h).toNat : Int) == 47) = false := by rw [beq_eq_false_iff_ne]; omega
     have hcat : S ++ s.extract k (k + 1) = strB (p ++ [(s[k]'h).toNat]) := by
      rw [← strB_bs (s.extract k (k + 1)), bs_extract, List.drop_take, hd, show k + 1 - k = 1 by omega, List.take_succ_cons, List.take_zero, ← HS.out, strB_cat]
     have Hcat := Lib.hid hcat
     have HE2 : Hid (l ++ splitG (p ++ [(s[k]'h).toNat]) ((bs s).drop (k + 1)) = R) := Lib.hid (by
      rw [← HE.out, hd, splitG, if_neg h47])
     have hz1 : (s.extract k (k + 1)).size = 1 := by rw [ByteArray.size_extract]; omega
     have hcc : ¬ 9223372036854775807 < S.size + 1 := by omega
     clear hd HX hcat h47 HU HB6 Hnews Hone
     go_wp2
     go_roundw
     case rel => exact ⟨k + 1, _, l, by omega, by go_num, by rw [Hcat.out], by simp; omega, by omega, HE2.out, Ho.out, HB.out⟩
     case measure => simp [intOf]; omega
   ·have hkI : ¬ (k : Int) < s.size := by omega
    have HE2 : Hid (l ++ [p] = R) := Lib.hid (by
     rw [← HE.out, List.drop_of_length_le (by rw [bs_len]; omega), splitG])
    go_wp2_with (at_builtin; refine append_atV _ rfl _ _ 56 rfl w.heap.size 9 iS (.string ⟨#[]⟩) 1 16 Tryz.underlying56 HiS.out.1 HiS.out.2.1 HiS.out.2.2.1 HiS.out.2.2.2 rfl (by omega) (.slice Av l.length cv) l.length _ rfl HU.out ⟨wr.heap.size, 0, none⟩ 1 1 _ rfl rfl Hnews.out Hone.out (by unfold maxLen; omega) (by omega) HB6.out.size ?_; intro va wa hob hgb _; have KU := Lib.hid hob; have KB := Lib.hid (HB6.out.grown hgb HB6.out.size (ownV_ge HU.out)); clear hob hgb)
    go_ret
    refine ⟨va, rfl, ?_, KB.out⟩
    rw [← HE2.out, List.length_append, strsV_app, show strsV [p] = [.string S] by rw [← HS.out]; rfl]
    exact KU.out
def okC (c : Nat) : Bool := decide (97 ≤ c ∧ c ≤ 122 ∨ 48 ≤ c ∧ c ≤ 57 ∨ c = 46 ∨ c = 95 ∨ c = 45)
def compB (p : List Nat) : Bool := decide (0 < p.length ∧ p.length ≤ 32 ∧ p ≠ [46] ∧ p ≠ [46, 46]) && p.all okC
def pathE (p : List Nat) : Int := if 200 < p.length then 6 else if 8 < (elemsL p).length then 6 else if (elemsL p).all compB then 0 else 7
theorem all_take {s : ByteArray} {k : Nat} (hk : k < s.size) : ((bs s).take (k + 1)).all okC = (((bs s).take k).all okC && okC (s[k]'hk).toNat) := by
 have hj : k < (bs s).length := by rw [bs_len]; exact hk
 rw [List.take_succ_eq_append_getElem hj, List.all_append, ← cf_get (List.getElem?_eq_getElem hj), bsc s k hk]
 simp
theorem comp_any (w : World) (s : ByteArray) (hs : s.size ≤ 1000000) : Calls Tryz.prog 291 #[.string s] w fun e w' => e = .returned (.bool (compB (bs s))) ∧ w = w' := by
 obtain ⟨R, hR⟩ : ∃ R, compB (bs s) = R := ⟨_, rfl⟩
 rw [hR]
 have hlen : (bs s).length = s.size := bs_len s
 have hdot : ∀ l : List Nat, (∀ b ∈ l, b < 256) → (s = strB l ↔ bs s = l) := fun l hl => ⟨fun e => by rw [e, bs_strB hl], fun e => by rw [← e, strB_bs]⟩
 have d1 := hdot [46] (by simp)
 have d2 := hdot [46, 46] (by simp)
 rw [show strB [46] = (⟨#[46]⟩ : ByteArray) from rfl] at d1
 rw [show strB [46, 46] = (⟨#[46, 46]⟩ : ByteArray) from rfl] at d2
 by_cases hc : 0 < s.size ∧ s.size ≤ 32 ∧ bs s ≠ [46] ∧ bs s ≠ [46, 46]
 ·obtain ⟨c1, c2, c3, c4⟩ := hc
  have hR2 : (bs s).all okC = R := by
   rw [← hR, compB, hlen, decide_eq_true ⟨c1, c2, c3, c4⟩, Bool.true_and]
  have HR := Lib.hid hR2
  have i1 : (0 : Int) < s.size := by omega
  have i2 : (s.size : Int) ≤ 32 := by omega
  have i3 : ¬ s.toList = [46] := fun e => c3 (d1.1 (toListV.1 e))
  have i4 : ¬ s.toList = [46, 46] := fun e => c4 (d2.1 (toListV.1 e))
  clear hR hR2 hdot d1 d2 hlen c3 c4
  go_enter Tryz.func291, Tryz.ntmps291
  go_wp2
  go_loop [3, 4, 5] (fun y x _ => ∃ (k : Nat), k ≤ s.size ∧ x = .int .i64 (k : Int) ∧ y = .bool (((bs s).take k).all okC)) (fun _ x _ => s.size - (intOf x).toNat)
  case atStart => exact ⟨0, by omega, rfl, by simp [i3, i4]⟩
  case round =>
   obtain ⟨k, hk, rfl, rfl⟩ := hrel
   obtain ⟨b, hb⟩ : ∃ b, ((bs s).take k).all okC = b := ⟨_, rfl⟩
   have Hb := Lib.hid hb
   rw [hb]
   clear hb
   have HF : Hid (b = false → R = false) := Lib.hid (fun e => by
    rw [← HR.out, ← List.take_append_drop k (bs s), List.all_append, Hb.out, e, Bool.false_and])
   cases b with
   | false =>
    go_wp2
    go_ret
    exact ⟨by rw [show R = false by first | exact HF.out rfl | exact HF.out trivial] <;> rfl, rfl⟩
   | true =>
    by_cases h : k < s.size
    ·have hkI : (k : Int) < s.size := by omega
     have HA := Lib.hid (all_take h)
     by_cases a1 : 97 ≤ (s[k]'h).toNat
     ·by_cases a2 : (s[k]'h).toNat ≤ 122
      ·have f0 : (97 : Int) ≤ ((s[k]'h).toNat : Int) := by omega
       have f1 : ((s[k]'h).toNat : Int) ≤ 122 := by omega
       have HV : Hid (((bs s).take (k + 1)).all okC = true) := Lib.hid (by rw [HA.out, Hb.out, Bool.true_and, okC]; exact decide_eq_true (by omega))
       clear a1 a2
       go_wp2
       go_round
       case rel => exact ⟨k + 1, by omega, by go_num, by rw [HV.out]⟩
       case measure => simp [intOf]; omega
      ·have f0 : (97 : Int) ≤ ((s[k]'h).toNat : Int) := by omega
       have f1 : ¬ ((s[k]'h).toNat : Int) ≤ 122 := by omega
       have f2 : (48 : Int) ≤ ((s[k]'h).toNat : Int) := by omega
       have f3 : ¬ ((s[k]'h).toNat : Int) ≤ 57 := by omega
       have f4 : (((s[k]'h).toNat : Int) == 46) = false := by rw [beq_eq_false_iff_ne]; omega
       have f5 : (((s[k]'h).toNat : Int) == 95) = false := by rw [beq_eq_false_iff_ne]; omega
       have f6 : (((s[k]'h).toNat : Int) == 45) = false := by rw [beq_eq_false_iff_ne]; omega
       have HV : Hid (((bs s).take (k + 1)).all okC = false) := Lib.hid (by rw [HA.out, Hb.out, Bool.true_and, okC]; exact decide_eq_false (by omega))
       clear a1 a2
       go_wp2
       go_round
       case rel => exact ⟨k + 1, by omega, by go_num, by rw [HV.out]⟩
       case measure => simp [intOf]; omega
     ·by_cases b1 : 48 ≤ (s[k]'h).toNat
      ·by_cases b2 : (s[k]'h).toNat ≤ 57
       ·have f0 : ¬ (97 : Int) ≤ ((s[k]'h).toNat : Int) := by omega
        have f1 : (48 : Int) ≤ ((s[k]'h).toNat : Int) := by omega
        have f2 : ((s[k]'h).toNat : Int) ≤ 57 := by omega
        have HV : Hid (((bs s).take (k + 1)).all okC = true) := Lib.hid (by rw [HA.out, Hb.out, Bool.true_and, okC]; exact decide_eq_true (by omega))
        clear a1 b1 b2
        go_wp2
        go_round
        case rel => exact ⟨k + 1, by omega, by go_num, by rw [HV.out]⟩
        case measure => simp [intOf]; omega
       ·by_cases b3 : (s[k]'h).toNat = 95
        ·have f0 : ¬ (97 : Int) ≤ ((s[k]'h).toNat : Int) := by omega
         have f1 : (48 : Int) ≤ ((s[k]'h).toNat : Int) := by omega
         have f2 : ¬ ((s[k]'h).toNat : Int) ≤ 57 := by omega
         have f3 : (((s[k]'h).toNat : Int) == 46) = false := by rw [beq_eq_false_iff_ne]; omega
         have f4 : (((s[k]'h).toNat : Int) == 95) = true := by rw [beq_iff_eq]; omega
         have HV : Hid (((bs s).take (k + 1)).all okC = true) := Lib.hid (by rw [HA.out, Hb.out, Bool.true_and, okC]; exact decide_eq_true (by omega))
         clear a1 b1 b2 b3
         go_wp2
         go_round
         case rel => exact ⟨k + 1, by omega, by go_num, by rw [HV.out]⟩
         case measure => simp [intOf]; omega
        ·have f0 : ¬ (97 : Int) ≤ ((s[k]'h).toNat : Int) := by omega
         have f1 : (48 : Int) ≤ ((s[k]'h).toNat : Int) := by omega
         have f2 : ¬ ((s[k]'h).toNat : Int) ≤ 57 := by omega
         have f3 : (((s[k]'h).toNat : Int) == 46) = false := by rw [beq_eq_false_iff_ne]; omega
         have f4 : (((s[k]'h).toNat : Int) == 95) = false := by rw [beq_eq_false_iff_ne]; omega
         have f5 : (((s[k]'h).toNat : Int) == 45) = false := by rw [beq_eq_false_iff_ne]; omega
         have HV : Hid (((bs s).take (k + 1)).all okC = false) := Lib.hid (by rw [HA.out, Hb.out, Bool.true_and, okC]; exact decide_eq_false (by omega))
         clear a1 b1 b2 b3
         go_wp2
         go_round
         case rel => exact ⟨k + 1, by omega, by go_num, by rw [HV.out]⟩
         case measure => simp [intOf]; omega
      ·by_cases c1 : (s[k]'h).toNat = 46
       ·have f0 : ¬ (97 : Int) ≤ ((s[k]'h).toNat : Int) := by omega
        have f1 : ¬ (48 : Int) ≤ ((s[k]'h).toNat : Int) := by omega
        have f2 : (((s[k]'h).toNat : Int) == 46) = true := by rw [beq_iff_eq]; omega
        have HV : Hid (((bs s).take (k + 1)).all okC = true) := Lib.hid (by rw [HA.out, Hb.out, Bool.true_and, okC]; exact decide_eq_true (by omega))
        clear a1 b1 c1
        go_wp2
        go_round
        case rel => exact ⟨k + 1, by omega, by go_num, by rw [HV.out]⟩
        case measure => simp [intOf]; omega
       ·by_cases c2 : (s[k]'h).toNat = 45
        ·have f0 : ¬ (97 : Int) ≤ ((s[k]'h).toNat : Int) := by omega
         have f1 : ¬ (48 : Int) ≤ ((s[k]'h).toNat : Int) := by omega
         have f2 : (((s[k]'h).toNat : Int) == 46) = false := by rw [beq_eq_false_iff_ne]; omega
         have f3 : (((s[k]'h).toNat : Int) == 95) = false := by rw [beq_eq_false_iff_ne]; omega
         have f4 : (((s[k]'h).toNat : Int) == 45) = true := by rw [beq_iff_eq]; omega
         have HV : Hid (((bs s).take (k + 1)).all okC = true) := Lib.hid (by rw [HA.out, Hb.out, Bool.true_and, okC]; exact decide_eq_true (by omega))
         clear a1 b1 c1 c2
         go_wp2
         go_round
         case rel => exact ⟨k + 1, by omega, by go_num, by rw [HV.out]⟩
         case measure => simp [intOf]; omega
        ·have f0 : ¬ (97 : Int) ≤ ((s[k]'h).toNat : Int) := by omega
         have f1 : ¬ (48 : Int) ≤ ((s[k]'h).toNat : Int) := by omega
         have f2 : (((s[k]'h).toNat : Int) == 46) = false := by rw [beq_eq_false_iff_ne]; omega
         have f3 : (((s[k]'h).toNat : Int) == 95) = false := by rw [beq_eq_false_iff_ne]; omega
         have f4 : (((s[k]'h).toNat : Int) == 45) = false := by rw [beq_eq_false_iff_ne]; omega
         have HV : Hid (((bs s).take (k + 1)).all okC = false) := Lib.hid (by rw [HA.out, Hb.out, Bool.true_and, okC]; exact decide_eq_false (by omega))
         clear a1 b1 c1 c2
         go_wp2
         go_round
         case rel => exact ⟨k + 1, by omega, by go_num, by rw [HV.out]⟩
         case measure => simp [intOf]; omega
    ·obtain rfl : k = s.size := by omega
     have hkI : ¬ ((s.size : Nat) : Int) < (s.size : Int) := by omega
     have HT : Hid (R = true) := Lib.hid (by rw [← HR.out, ← Hb.out, ← bs_len s, List.take_length])
     go_wp2
     go_ret
     exact ⟨by rw [HT.out] <;> rfl, rfl⟩
 ·have hRf : R = false := by
   rw [← hR, compB, hlen, decide_eq_false hc, Bool.false_and]
  have HR := Lib.hid hRf
  have hx : s.size = 0 ∨ 32 < s.size ∨ (0 < s.size ∧ s.size ≤ 32 ∧ bs s = [46]) ∨ (0 < s.size ∧ s.size ≤ 32 ∧ bs s ≠ [46] ∧ bs s = [46, 46]) := by
   by_cases x1 : s.size = 0
   ·exact .inl x1
   ·by_cases x2 : 32 < s.size
    ·exact .inr (.inl x2)
    ·by_cases x3 : bs s = [46]
     ·exact .inr (.inr (.inl ⟨by omega, by omega, x3⟩))
     ·by_cases x4 : bs s = [46, 46]
      ·exact .inr (.inr (.inr ⟨by omega, by omega, x3, x4⟩))
      ·exact absurd ⟨by omega, by omega, x3, x4⟩ hc
  clear hR hRf hdot hc hlen
  rcases hx with x1 | x2 | ⟨x1, x2, x3⟩ | ⟨x1, x2, x3, x4⟩
  ·have i1 : ¬ (0 : Int) < s.size := by omega
   clear d1 d2
   go_enter Tryz.func291, Tryz.ntmps291
   go_wp2
   go_loop [3, 4, 5] (fun y x _ => y = .bool false ∧ x = .int .i64 0) (fun _ _ _ => 0)
   case atStart => exact ⟨rfl, rfl⟩
   case round =>
    obtain ⟨rfl, rfl⟩ := hrel
    go_wp2
    go_ret
    exact ⟨by rw [HR.out] <;> rfl, rfl⟩
  ·have i1 : (0 : Int) < s.size := by omega
   have i2 : ¬ (s.size : Int) ≤ 32 := by omega
   clear d1 d2
   go_enter Tryz.func291, Tryz.ntmps291
   go_wp2
   go_loop [3, 4, 5] (fun y x _ => y = .bool false ∧ x = .int .i64 0) (fun _ _ _ => 0)
   case atStart => exact ⟨rfl, rfl⟩
   case round =>
    obtain ⟨rfl, rfl⟩ := hrel
    go_wp2
    go_ret
    exact ⟨by rw [HR.out] <;> rfl, rfl⟩
  ·have i1 : (0 : Int) < s.size := by omega
   have i2 : (s.size : Int) ≤ 32 := by omega
   have i3 : s.toList = [46] := toListV.2 (d1.2 x3)
   clear x3
   clear d1 d2
   go_enter Tryz.func291, Tryz.ntmps291
   go_wp2
   go_loop [3, 4, 5] (fun y x _ => y = .bool false ∧ x = .int .i64 0) (fun _ _ _ => 0)
   case atStart => exact ⟨rfl, rfl⟩
   case round =>
    obtain ⟨rfl, rfl⟩ := hrel
    go_wp2
    go_ret
    exact ⟨by rw [HR.out] <;> rfl, rfl⟩
  ·have i1 : (0 : Int) < s.size := by omega
   have i2 : (s.size : Int) ≤ 32 := by omega
   have i3 : ¬ s.toList = [46] := fun e => x3 (d1.1 (toListV.1 e))
   have i4 : s.toList = [46, 46] := toListV.2 (d2.2 x4)
   clear x3 x4
   clear d1 d2
   go_enter Tryz.func291, Tryz.ntmps291
   go_wp2
   go_loop [3, 4, 5] (fun y x _ => y = .bool false ∧ x = .int .i64 0) (fun _ _ _ => 0)
   case atStart => exact ⟨rfl, rfl⟩
   case round =>
    obtain ⟨rfl, rfl⟩ := hrel
    go_wp2
    go_ret
    exact ⟨by rw [HR.out] <;> rfl, rfl⟩
theorem splitG_bytes : ∀ (r p : List Nat), (∀ b ∈ p, b < 256) → (∀ b ∈ r, b < 256) → ∀ x ∈ splitG p r, ∀ b ∈ x, b < 256
 | [], p, hp, _, x, hx => by
  rw [splitG, List.mem_singleton] at hx
  rw [hx]
  exact hp
 | c :: r, p, hp, hr, x, hx => by
  rw [splitG] at hx
  split at hx
  ·rcases List.mem_cons.1 hx with rfl | hx
   ·exact hp
   ·exact splitG_bytes r [] (fun b hb => nomatch hb) (fun b hb => hr b (List.mem_cons_of_mem _ hb)) x hx
  ·refine splitG_bytes r (p ++ [c]) (fun b hb => ?_) (fun b hb => hr b (List.mem_cons_of_mem _ hb)) x hx
   rcases List.mem_append.1 hb with hb | hb
   ·exact hp b hb
   ·rw [List.mem_singleton.1 hb]
    exact hr c List.mem_cons_self
theorem elemsL_bytes {s : List Nat} (hs : ∀ b ∈ s, b < 256) : ∀ x ∈ elemsL s, ∀ b ∈ x, b < 256 := by
 unfold elemsL
 split
 ·intro x hx; cases hx
 ·exact splitG_bytes s [] (fun b hb => nomatch hb) hs
theorem path_any (w : World) (s : ByteArray) (hs : s.size ≤ 1000000) : Calls Tryz.prog 206 #[.string s] w fun e w' => e = .returned (.int .i64 (pathE (bs s))) ∧ Below w.heap.size w w' := by
 obtain ⟨R, hR⟩ : ∃ R, pathE (bs s) = R := ⟨_, rfl⟩
 rw [hR]
 rw [pathE, bs_len] at hR
 by_cases h2 : 200 < s.size
 ·have i2 : (200 : Int) < s.size := by omega
  rw [if_pos h2] at hR
  have HR := Lib.hid hR
  clear hR
  go_enter Tryz.func206, Tryz.ntmps206
  go_wp2
  go_ret
  exact ⟨by rw [← HR.out] <;> rfl, Below.refl _ _⟩
 ·have i2 : ¬ (200 : Int) < s.size := by omega
  rw [if_neg h2] at hR
  have HEl := Lib.hid (elems_any w s hs)
  have hby := elemsL_bytes (s := bs s) (fun b hb => bs_lt s b hb)
  have hsz := (elemsL_size (s := bs s))
  rw [bs_len] at hsz
  generalize elemsL (bs s) = L at *
  have HC : Hid (∀ (W : World) (p : List Nat), p ∈ L → Calls Tryz.prog 291 #[.string (strB p)] W fun e w' => e = .returned (.bool (compB p)) ∧ W = w') := Lib.hid (fun W p hp => by
   have := comp_any W (strB p) (by rw [strB_size]; have := hsz.1 p hp; omega)
   rwa [bs_strB (hby p hp)] at this)
  have hl8 : L.length ≤ 201 := by omega
  have HR := Lib.hid hR
  clear hR hby hsz h2
  go_enter Tryz.func206, Tryz.ntmps206
  go_wp2_with fail
  refine HEl.out.mono ?_
  rintro e1 w1 ⟨v, rfl, ho, hb⟩
  have Ho := Lib.hid ho
  have HB := Lib.hid hb
  obtain ⟨Av, cv, rfl⟩ := ownV_slice ho
  clear ho hb HEl
  by_cases h8 : 8 < L.length
  ·have i8 : (8 : Int) < L.length := by omega
   have HV : Hid (R = 6) := Lib.hid (by rw [← HR.out, if_pos h8])
   go_wp2
   go_ret
   exact ⟨by rw [HV.out] <;> rfl, HB.out⟩
  ·have i8 : ¬ (8 : Int) < L.length := by omega
   have HV : Hid ((if L.all compB then (0 : Int) else 7) = R) := Lib.hid (by rw [← HR.out, if_neg h8])
   clear HR
   go_wp2
   go_loop [4] (fun x => ∃ i : Nat, i ≤ L.length ∧ x = .int .i64 (i : Int) ∧ (L.take i).all compB = true) (fun x => L.length - (intOf x).toNat)
   case atStart => exact ⟨0, by omega, rfl, rfl⟩
   case round =>
    obtain ⟨i, hi, rfl, hok⟩ := hrel
    have Hok := Lib.hid hok
    clear hok
    by_cases h : i < L.length
    ·have hiI : (i : Int) < L.length := by omega
     obtain ⟨p, hp⟩ : ∃ p, L[i]? = some p := ⟨_, List.getElem?_eq_getElem h⟩
     obtain ⟨g, cap, e9, _⟩ := ownV_at Ho.out (by omega)
     cases e9
     have hc : w1.cell? ⟨g, 0 + i, none⟩ = some (.string (strB p)) := by
      rw [Nat.zero_add, Ho.out.cellAt i (by omega), strsV, List.getElem?_map, hp]
      rfl
     rw [Nat.zero_add] at hc
     have HCp := Lib.hid (HC.out w1 p (List.mem_of_getElem? hp))
     have HT : Hid ((L.take (i + 1)).all compB = compB p) := Lib.hid (by
      rw [List.take_add_one, hp, Option.toList_some, List.all_append, Hok.out, Bool.true_and]
      simp)
     have HF : Hid (compB p = false → R = 7) := Lib.hid (fun e => by
      rw [← HV.out, if_neg]
      intro hall
      have := List.all_eq_true.1 hall p (List.mem_of_getElem? hp)
      rw [e] at this
      cases this)
     clear hp
     generalize compB p = b at *
     go_wp2_with fail
     refine HCp.out.mono ?_
     rintro e2 w2 ⟨rfl, rfl⟩
     cases b with
     | false =>
      go_wp2
      go_ret
      exact ⟨by rw [show R = 7 by first | exact HF.out rfl | exact HF.out trivial] <;> rfl, HB.out⟩
     | true =>
      go_wp2
      go_round
      case rel => exact ⟨i + 1, by omega, by go_num, HT.out⟩
      case measure => simp [intOf]; omega
    ·obtain rfl : i = L.length := by omega
     have hiI : ¬ ((L.length : Nat) : Int) < (L.length : Int) := by omega
     have HT : Hid (R = 0) := Lib.hid (by
      have h1 := Hok.out
      rw [List.take_length] at h1
      rw [← HV.out, if_pos h1])
     go_wp2
     go_ret
     exact ⟨by rw [HT.out] <;> rfl, HB.out⟩
def keyB (p : List Nat) : Bool := decide (1 ≤ p.length ∧ p.length ≤ 32) && p.all okC
theorem key_any (w : World) (s : ByteArray) (hs : s.size ≤ 1000000) : Calls Tryz.prog 292 #[.string s] w fun e w' => e = .returned (.bool (keyB (bs s))) ∧ w = w' := by
 obtain ⟨R, hR⟩ : ∃ R, keyB (bs s) = R := ⟨_, rfl⟩
 rw [hR]
 rw [keyB, bs_len] at hR
 by_cases h1 : s.size < 1
 ·have i1 : (s.size : Int) < 1 := by omega
  rw [decide_eq_false (by omega), Bool.false_and] at hR
  have HR := Lib.hid hR
  clear hR
  go_enter Tryz.func292, Tryz.ntmps292
  go_wp2
  go_ret
  exact ⟨by rw [← HR.out] <;> rfl, rfl⟩
 ·by_cases h2 : 32 < s.size
  ·have i1 : ¬ (s.size : Int) < 1 := by omega
   have i2 : (32 : Int) < s.size := by omega
   rw [decide_eq_false (by omega), Bool.false_and] at hR
   have HR := Lib.hid hR
   clear hR
   go_enter Tryz.func292, Tryz.ntmps292
   go_wp2
   go_ret
   exact ⟨by rw [← HR.out] <;> rfl, rfl⟩
  ·have i1 : ¬ (s.size : Int) < 1 := by omega
   have i2 : ¬ (32 : Int) < s.size := by omega
   rw [decide_eq_true ⟨by omega, by omega⟩, Bool.true_and] at hR
   have HR := Lib.hid hR
   clear hR
   go_enter Tryz.func292, Tryz.ntmps292
   go_wp2
   go_loop [3, 4] (fun x _ => ∃ k : Nat, k ≤ s.size ∧ x = .int .i64 (k : Int) ∧ ((bs s).take k).all okC = true) (fun x _ => s.size - (intOf x).toNat)
   case atStart => exact ⟨0, by omega, rfl, rfl⟩
   case round =>
    obtain ⟨k, hk, rfl, hok⟩ := hrel
    have Hok := Lib.hid hok
    clear hok
    by_cases h : k < s.size
    ·have hkI : (k : Int) < s.size := by omega
     have HA := Lib.hid (all_take h)
     have HF : Hid (((bs s).take (k + 1)).all okC = false → R = false) := Lib.hid (fun e => by
      rw [← HR.out, ← List.take_append_drop (k + 1) (bs s), List.all_append, e, Bool.false_and])
     by_cases a1 : (s[k]'h).toNat < 97
     ·by_cases b1 : (s[k]'h).toNat < 48
      ·by_cases c1 : (s[k]'h).toNat = 46
       ·have f0 : ((s[k]'h).toNat : Int) < 97 := by omega
        have f1 : ((s[k]'h).toNat : Int) < 48 := by omega
        have f2 : (((s[k]'h).toNat : Int) != 46) = false := by rw [bne_eq_false_iff_eq]; omega
        have HV : Hid (((bs s).take (k + 1)).all okC = true) := Lib.hid (by rw [HA.out, Hok.out, Bool.true_and, okC]; exact decide_eq_true (by omega))
        clear a1 b1 c1
        go_wp2
        go_round
        case rel => exact ⟨k + 1, by omega, by go_num, HV.out⟩
        case measure => simp [intOf]; omega
       ·by_cases c2 : (s[k]'h).toNat = 45
        ·have f0 : ((s[k]'h).toNat : Int) < 97 := by omega
         have f1 : ((s[k]'h).toNat : Int) < 48 := by omega
         have f2 : (((s[k]'h).toNat : Int) != 46) = true := by rw [bne_iff_ne]; omega
         have f3 : (((s[k]'h).toNat : Int) != 95) = true := by rw [bne_iff_ne]; omega
         have f4 : (((s[k]'h).toNat : Int) != 45) = false := by rw [bne_eq_false_iff_eq]; omega
         have HV : Hid (((bs s).take (k + 1)).all okC = true) := Lib.hid (by rw [HA.out, Hok.out, Bool.true_and, okC]; exact decide_eq_true (by omega))
         clear a1 b1 c1 c2
         go_wp2
         go_round
         case rel => exact ⟨k + 1, by omega, by go_num, HV.out⟩
         case measure => simp [intOf]; omega
        ·have f0 : ((s[k]'h).toNat : Int) < 97 := by omega
         have f1 : ((s[k]'h).toNat : Int) < 48 := by omega
         have f2 : (((s[k]'h).toNat : Int) != 46) = true := by rw [bne_iff_ne]; omega
         have f3 : (((s[k]'h).toNat : Int) != 95) = true := by rw [bne_iff_ne]; omega
         have f4 : (((s[k]'h).toNat : Int) != 45) = true := by rw [bne_iff_ne]; omega
         have HV : Hid (((bs s).take (k + 1)).all okC = false) := Lib.hid (by rw [HA.out, Hok.out, Bool.true_and, okC]; exact decide_eq_false (by omega))
         have HZ := Lib.hid (HF.out HV.out)
         clear a1 b1 c1 c2
         go_wp2
         go_ret
         exact ⟨by rw [HZ.out] <;> rfl, rfl⟩
      ·by_cases b2 : 57 < (s[k]'h).toNat
       ·by_cases c2 : (s[k]'h).toNat = 95
        ·have f0 : ((s[k]'h).toNat : Int) < 97 := by omega
         have f1 : ¬ ((s[k]'h).toNat : Int) < 48 := by omega
         have f2 : (57 : Int) < ((s[k]'h).toNat : Int) := by omega
         have f3 : (((s[k]'h).toNat : Int) != 46) = true := by rw [bne_iff_ne]; omega
         have f4 : (((s[k]'h).toNat : Int) != 95) = false := by rw [bne_eq_false_iff_eq]; omega
         have HV : Hid (((bs s).take (k + 1)).all okC = true) := Lib.hid (by rw [HA.out, Hok.out, Bool.true_and, okC]; exact decide_eq_true (by omega))
         clear a1 b1 b2 c2
         go_wp2
         go_round
         case rel => exact ⟨k + 1, by omega, by go_num, HV.out⟩
         case measure => simp [intOf]; omega
        ·have f0 : ((s[k]'h).toNat : Int) < 97 := by omega
         have f1 : ¬ ((s[k]'h).toNat : Int) < 48 := by omega
         have f2 : (57 : Int) < ((s[k]'h).toNat : Int) := by omega
         have f3 : (((s[k]'h).toNat : Int) != 46) = true := by rw [bne_iff_ne]; omega
         have f4 : (((s[k]'h).toNat : Int) != 95) = true := by rw [bne_iff_ne]; omega
         have f5 : (((s[k]'h).toNat : Int) != 45) = true := by rw [bne_iff_ne]; omega
         have HV : Hid (((bs s).take (k + 1)).all okC = false) := Lib.hid (by rw [HA.out, Hok.out, Bool.true_and, okC]; exact decide_eq_false (by omega))
         have HZ := Lib.hid (HF.out HV.out)
         clear a1 b1 b2 c2
         go_wp2
         go_ret
         exact ⟨by rw [HZ.out] <;> rfl, rfl⟩
       ·have f0 : ((s[k]'h).toNat : Int) < 97 := by omega
        have f1 : ¬ ((s[k]'h).toNat : Int) < 48 := by omega
        have f2 : ¬ (57 : Int) < ((s[k]'h).toNat : Int) := by omega
        have HV : Hid (((bs s).take (k + 1)).all okC = true) := Lib.hid (by rw [HA.out, Hok.out, Bool.true_and, okC]; exact decide_eq_true (by omega))
        clear a1 b1 b2
        go_wp2
        go_round
        case rel => exact ⟨k + 1, by omega, by go_num, HV.out⟩
        case measure => simp [intOf]; omega
     ·by_cases b1 : 122 < (s[k]'h).toNat
      ·have f0 : ¬ ((s[k]'h).toNat : Int) < 97 := by omega
       have f1 : (122 : Int) < ((s[k]'h).toNat : Int) := by omega
       have f2 : ¬ ((s[k]'h).toNat : Int) < 48 := by omega
       have f3 : (57 : Int) < ((s[k]'h).toNat : Int) := by omega
       have f4 : (((s[k]'h).toNat : Int) != 46) = true := by rw [bne_iff_ne]; omega
       have f5 : (((s[k]'h).toNat : Int) != 95) = true := by rw [bne_iff_ne]; omega
       have f6 : (((s[k]'h).toNat : Int) != 45) = true := by rw [bne_iff_ne]; omega
       have HV : Hid (((bs s).take (k + 1)).all okC = false) := Lib.hid (by rw [HA.out, Hok.out, Bool.true_and, okC]; exact decide_eq_false (by omega))
       have HZ := Lib.hid (HF.out HV.out)
       clear a1 b1
       go_wp2
       go_ret
       exact ⟨by rw [HZ.out] <;> rfl, rfl⟩
      ·have f0 : ¬ ((s[k]'h).toNat : Int) < 97 := by omega
       have f1 : ¬ (122 : Int) < ((s[k]'h).toNat : Int) := by omega
       have HV : Hid (((bs s).take (k + 1)).all okC = true) := Lib.hid (by rw [HA.out, Hok.out, Bool.true_and, okC]; exact decide_eq_true (by omega))
       clear a1 b1
       go_wp2
       go_round
       case rel => exact ⟨k + 1, by omega, by go_num, HV.out⟩
       case measure => simp [intOf]; omega
    ·obtain rfl : k = s.size := by omega
     have hkI : ¬ ((s.size : Nat) : Int) < (s.size : Int) := by omega
     have HT : Hid (R = true) := Lib.hid (by rw [← HR.out, ← Hok.out, ← bs_len s, List.take_length])
     go_wp2
     go_ret
     exact ⟨by rw [HT.out] <;> rfl, rfl⟩
def nameK (k : Int) : ByteArray :=
 if k = 1 then ⟨#[102, 105, 108, 101]⟩ else if k = 2 then ⟨#[100, 105, 114]⟩ else if k = 3 then ⟨#[108, 105, 110, 107]⟩ else if k = 4 then ⟨#[114, 101, 109, 111, 118, 101]⟩ else if k = 5 then ⟨#[104, 111, 108, 100]⟩ else if k = 6 then ⟨#[114, 101, 108, 101, 97, 115, 101]⟩ else ⟨#[]⟩
theorem name_any (w : World) (k : Int) : Calls Tryz.prog 205 #[.int .i64 k] w fun e w' => e = .returned (.string (nameK k)) ∧ w = w' := by
 by_cases h : k = 1 ∨ k = 2 ∨ k = 3 ∨ k = 4 ∨ k = 5 ∨ k = 6
 ·rcases h with rfl | rfl | rfl | rfl | rfl | rfl <;>
  ·go_enter Tryz.func205, Tryz.ntmps205
   go_wp2
   go_ret
   exact ⟨rfl, rfl⟩
 ·have e : ∀ j : Int, 1 ≤ j → j ≤ 6 → (k == j) = false := fun j h1 h2 => by rw [beq_eq_false_iff_ne]; omega
  have e1 := e 1 (by omega) (by omega)
  have e2 := e 2 (by omega) (by omega)
  have e3 := e 3 (by omega) (by omega)
  have e4 := e 4 (by omega) (by omega)
  have e5 := e 5 (by omega) (by omega)
  have e6 := e 6 (by omega) (by omega)
  have HN : Hid (nameK k = ⟨#[]⟩) := Lib.hid (by
   unfold nameK
   rw [if_neg (by omega), if_neg (by omega), if_neg (by omega), if_neg (by omega), if_neg (by omega), if_neg (by omega)])
  clear e h
  go_enter Tryz.func205, Tryz.ntmps205
  go_wp2
  go_ret
  exact ⟨by rw [HN.out] <;> rfl, rfl⟩
def digB (c : Nat) : Bool := decide (48 ≤ c ∧ c ≤ 57)
def valD (p : List Nat) : Nat := p.foldl (fun n c => 10 * n + (c - 48)) 0
def dateB (p : List Nat) : Bool := decide (1 ≤ p.length ∧ p.length ≤ 10 ∧ ¬ (1 < p.length ∧ cf p 0 = 48)) && (p.all digB && decide (valD p ≤ 1000000000))
theorem valD_lt {p : List Nat} (h : p.all digB = true) : valD p < 10 ^ p.length := by
 have g : ∀ (p : List Nat) (n m : Nat), p.all digB = true → n < 10 ^ m → p.foldl (fun n c => 10 * n + (c - 48)) n < 10 ^ (m + p.length) := by
  intro p
  induction p with
  | nil => intro n m _ hn; simpa using hn
  | cons c r ih =>
   intro n m hc hn
   rw [List.all_cons, Bool.and_eq_true] at hc
   have h1 := of_decide_eq_true hc.1
   have h2 : 10 * n + (c - 48) < 10 ^ (m + 1) := by rw [Nat.pow_succ]; omega
   have := ih (10 * n + (c - 48)) (m + 1) hc.2 h2
   rw [List.foldl_cons, List.length_cons]
   rwa [show m + (r.length + 1) = m + 1 + r.length by omega]
 have := g p 0 0 h (by decide)
 rwa [Nat.zero_add] at this
theorem date36_any (w : World) (s : ByteArray) (hs : s.size ≤ 1000000) : Calls Tryz.prog 293 #[.string s] w fun e w' => ∃ n : Int, e = .returned (.tuple #[.int .i64 n, .bool (dateB (bs s))]) ∧ w = w' := by
 obtain ⟨R, hR⟩ : ∃ R, dateB (bs s) = R := ⟨_, rfl⟩
 rw [hR]
 rw [dateB, bs_len] at hR
 by_cases h1 : s.size < 1
 ·have i1 : (s.size : Int) < 1 := by omega
  rw [decide_eq_false (by omega), Bool.false_and] at hR
  have HR := Lib.hid hR
  clear hR
  go_enter Tryz.func293, Tryz.ntmps293
  go_wp2
  go_ret2
  first | exact ⟨0, by rw [← HR.out] <;> rfl, rfl⟩ | exact ⟨⟨0, by rw [← HR.out] <;> rfl⟩, rfl⟩ | exact ⟨0, by rw [← HR.out] <;> rfl⟩
 ·by_cases h2 : 10 < s.size
  ·have i1 : ¬ (s.size : Int) < 1 := by omega
   have i2 : (10 : Int) < s.size := by omega
   rw [decide_eq_false (by omega), Bool.false_and] at hR
   have HR := Lib.hid hR
   clear hR
   go_enter Tryz.func293, Tryz.ntmps293
   go_wp2
   go_ret2
   first | exact ⟨0, by rw [← HR.out] <;> rfl, rfl⟩ | exact ⟨⟨0, by rw [← HR.out] <;> rfl⟩, rfl⟩ | exact ⟨0, by rw [← HR.out] <;> rfl⟩
  ·have i1 : ¬ (s.size : Int) < 1 := by omega
   have i2 : ¬ (10 : Int) < s.size := by omega
   have h0 : 0 < s.size := by omega
   have hb0 := bsc s 0 h0
   by_cases h3 : 1 < s.size
   ·have i3 : (1 : Int) < s.size := by omega
    have i0 : (0 : Int) < s.size := by omega
    by_cases h4 : (s[0]'h0).toNat = 48
    ·have i4 : (((s[0]'h0).toNat : Int) == 48) = true := by rw [h4]; rfl
     rw [decide_eq_false (fun e => e.2.2 ⟨h3, by rw [hb0, h4]⟩), Bool.false_and] at hR
     have HR := Lib.hid hR
     clear hR hb0 h4
     go_enter Tryz.func293, Tryz.ntmps293
     go_wp2
     go_ret2
     first | exact ⟨0, by rw [← HR.out] <;> rfl, rfl⟩ | exact ⟨⟨0, by rw [← HR.out] <;> rfl⟩, rfl⟩ | exact ⟨0, by rw [← HR.out] <;> rfl⟩
    ·have i4 : (((s[0]'h0).toNat : Int) == 48) = false := by rw [beq_eq_false_iff_ne]; omega
     rw [decide_eq_true ⟨by omega, by omega, fun e => h4 (by rw [← hb0]; exact e.2)⟩, Bool.true_and] at hR
     have HR := Lib.hid hR
     clear hR hb0 h4
     go_enter Tryz.func293, Tryz.ntmps293
     go_wp2
     go_loop [4, 5] (fun y x => ∃ k : Nat, k ≤ s.size ∧ x = .int .i64 (k : Int) ∧ y = .int .i64 ((valD ((bs s).take k) : Nat) : Int) ∧ ((bs s).take k).all digB = true) (fun _ x => s.size - (intOf x).toNat)
     case atStart => exact ⟨0, by omega, rfl, rfl, rfl⟩
     case round =>
      obtain ⟨k, hk, rfl, rfl, hok⟩ := hrel
      have Hok := Lib.hid hok
      have hv := valD_lt hok
      rw [List.length_take, bs_len, Nat.min_eq_left hk] at hv
      have hv2 : 10 ^ k ≤ 10 ^ 10 := Nat.pow_le_pow_right (by decide) (by omega)
      have hv3 : valD ((bs s).take k) < 10000000000 := by omega
      clear hok hv hv2
      by_cases h : k < s.size
      ·have hkI : (k : Int) < s.size := by omega
       have hj : k < (bs s).length := by rw [bs_len]; exact h
       have ht : (bs s).take (k + 1) = (bs s).take k ++ [(s[k]'h).toNat] := by
        rw [List.take_succ_eq_append_getElem hj, ← cf_get (List.getElem?_eq_getElem hj), bsc s k h]
       have HA : Hid (((bs s).take (k + 1)).all digB = digB (s[k]'h).toNat) := Lib.hid (by rw [ht, List.all_append, Hok.out, Bool.true_and]; simp)
       have HF : Hid (digB (s[k]'h).toNat = false → R = false) := Lib.hid (fun e => by
        rw [← HR.out, ← List.take_append_drop (k + 1) (bs s), List.all_append, HA.out, e, Bool.false_and, Bool.false_and])
       by_cases a1 : (s[k]'h).toNat < 48
       ·have f0 : ((s[k]'h).toNat : Int) < 48 := by omega
        have HZ : Hid (R = false) := Lib.hid (HF.out (decide_eq_false (by omega)))
        clear a1 ht hj
        go_wp2
        go_ret2
        first | exact ⟨0, by rw [HZ.out] <;> rfl, rfl⟩ | exact ⟨⟨0, by rw [HZ.out] <;> rfl⟩, rfl⟩ | exact ⟨0, by rw [HZ.out] <;> rfl⟩
       ·by_cases a2 : 57 < (s[k]'h).toNat
        ·have f0 : ¬ ((s[k]'h).toNat : Int) < 48 := by omega
         have f1 : (57 : Int) < ((s[k]'h).toNat : Int) := by omega
         have HZ : Hid (R = false) := Lib.hid (HF.out (decide_eq_false (by omega)))
         clear a1 a2 ht hj
         go_wp2
         go_ret2
         first | exact ⟨0, by rw [HZ.out] <;> rfl, rfl⟩ | exact ⟨⟨0, by rw [HZ.out] <;> rfl⟩, rfl⟩ | exact ⟨0, by rw [HZ.out] <;> rfl⟩
        ·have f0 : ¬ ((s[k]'h).toNat : Int) < 48 := by omega
         have f1 : ¬ (57 : Int) < ((s[k]'h).toNat : Int) := by omega
         have HG : Hid (((bs s).take (k + 1)).all digB = true) := Lib.hid (by rw [HA.out]; exact decide_eq_true (by omega))
         have HN : Hid (valD ((bs s).take (k + 1)) = 10 * valD ((bs s).take k) + ((s[k]'h).toNat - 48)) := Lib.hid (by rw [ht, valD, List.foldl_append]; rfl)
         clear ht hj
         generalize valD ((bs s).take k) = v at *
         go_wp2
         go_round
         case rel => exact ⟨k + 1, by omega, by go_num, by rw [HN.out]; go_num, HG.out⟩
         case measure => simp [intOf]; omega
      ·obtain rfl : k = s.size := by omega
       have hkI : ¬ ((s.size : Nat) : Int) < (s.size : Int) := by omega
       have ht : (bs s).take s.size = bs s := by rw [← bs_len s, List.take_length]
       have HT : Hid (decide (valD ((bs s).take s.size) ≤ 1000000000) = R) := Lib.hid (by
        have e := Hok.out
        rw [ht] at e ⊢
        rw [← HR.out, e, Bool.true_and])
       clear ht
       generalize valD ((bs s).take s.size) = v at *
       by_cases hle : v ≤ 1000000000
       ·have i9 : (v : Int) ≤ 1000000000 := by omega
        have HZ : Hid (R = true) := Lib.hid (by rw [← HT.out]; exact decide_eq_true hle)
        go_wp2
        go_ret2
        first | exact ⟨v, by rw [HZ.out] <;> rfl, rfl⟩ | exact ⟨⟨v, by rw [HZ.out] <;> rfl⟩, rfl⟩ | exact ⟨v, by rw [HZ.out] <;> rfl⟩
       ·have i9 : ¬ (v : Int) ≤ 1000000000 := by omega
        have HZ : Hid (R = false) := Lib.hid (by rw [← HT.out]; exact decide_eq_false hle)
        go_wp2
        go_ret2
        first | exact ⟨v, by rw [HZ.out] <;> rfl, rfl⟩ | exact ⟨⟨v, by rw [HZ.out] <;> rfl⟩, rfl⟩ | exact ⟨v, by rw [HZ.out] <;> rfl⟩
   ·have i3 : ¬ (1 : Int) < s.size := by omega
    rw [decide_eq_true ⟨by omega, by omega, fun e => h3 e.1⟩, Bool.true_and] at hR
    have HR := Lib.hid hR
    clear hR hb0
    go_enter Tryz.func293, Tryz.ntmps293
    go_wp2
    go_loop [4, 5] (fun y x => ∃ k : Nat, k ≤ s.size ∧ x = .int .i64 (k : Int) ∧ y = .int .i64 ((valD ((bs s).take k) : Nat) : Int) ∧ ((bs s).take k).all digB = true) (fun _ x => s.size - (intOf x).toNat)
    case atStart => exact ⟨0, by omega, rfl, rfl, rfl⟩
    case round =>
     obtain ⟨k, hk, rfl, rfl, hok⟩ := hrel
     have Hok := Lib.hid hok
     have hv := valD_lt hok
     rw [List.length_take, bs_len, Nat.min_eq_left hk] at hv
     have hv2 : 10 ^ k ≤ 10 ^ 10 := Nat.pow_le_pow_right (by decide) (by omega)
     have hv3 : valD ((bs s).take k) < 10000000000 := by omega
     clear hok hv hv2
     by_cases h : k < s.size
     ·have hkI : (k : Int) < s.size := by omega
      have hj : k < (bs s).length := by rw [bs_len]; exact h
      have ht : (bs s).take (k + 1) = (bs s).take k ++ [(s[k]'h).toNat] := by
       rw [List.take_succ_eq_append_getElem hj, ← cf_get (List.getElem?_eq_getElem hj), bsc s k h]
      have HA : Hid (((bs s).take (k + 1)).all digB = digB (s[k]'h).toNat) := Lib.hid (by rw [ht, List.all_append, Hok.out, Bool.true_and]; simp)
      have HF : Hid (digB (s[k]'h).toNat = false → R = false) := Lib.hid (fun e => by
       rw [← HR.out, ← List.take_append_drop (k + 1) (bs s), List.all_append, HA.out, e, Bool.false_and, Bool.false_and])
      by_cases a1 : (s[k]'h).toNat < 48
      ·have f0 : ((s[k]'h).toNat : Int) < 48 := by omega
       have HZ : Hid (R = false) := Lib.hid (HF.out (decide_eq_false (by omega)))
       clear a1 ht hj
       go_wp2
       go_ret2
       first | exact ⟨0, by rw [HZ.out] <;> rfl, rfl⟩ | exact ⟨⟨0, by rw [HZ.out] <;> rfl⟩, rfl⟩ | exact ⟨0, by rw [HZ.out] <;> rfl⟩
      ·by_cases a2 : 57 < (s[k]'h).toNat
       ·have f0 : ¬ ((s[k]'h).toNat : Int) < 48 := by omega
        have f1 : (57 : Int) < ((s[k]'h).toNat : Int) := by omega
        have HZ : Hid (R = false) := Lib.hid (HF.out (decide_eq_false (by omega)))
        clear a1 a2 ht hj
        go_wp2
        go_ret2
        first | exact ⟨0, by rw [HZ.out] <;> rfl, rfl⟩ | exact ⟨⟨0, by rw [HZ.out] <;> rfl⟩, rfl⟩ | exact ⟨0, by rw [HZ.out] <;> rfl⟩
       ·have f0 : ¬ ((s[k]'h).toNat : Int) < 48 := by omega
        have f1 : ¬ (57 : Int) < ((s[k]'h).toNat : Int) := by omega
        have HG : Hid (((bs s).take (k + 1)).all digB = true) := Lib.hid (by rw [HA.out]; exact decide_eq_true (by omega))
        have HN : Hid (valD ((bs s).take (k + 1)) = 10 * valD ((bs s).take k) + ((s[k]'h).toNat - 48)) := Lib.hid (by rw [ht, valD, List.foldl_append]; rfl)
        clear ht hj
        generalize valD ((bs s).take k) = v at *
        go_wp2
        go_round
        case rel => exact ⟨k + 1, by omega, by go_num, by rw [HN.out]; go_num, HG.out⟩
        case measure => simp [intOf]; omega
     ·obtain rfl : k = s.size := by omega
      have hkI : ¬ ((s.size : Nat) : Int) < (s.size : Int) := by omega
      have ht : (bs s).take s.size = bs s := by rw [← bs_len s, List.take_length]
      have HT : Hid (decide (valD ((bs s).take s.size) ≤ 1000000000) = R) := Lib.hid (by
       have e := Hok.out
       rw [ht] at e ⊢
       rw [← HR.out, e, Bool.true_and])
      clear ht
      generalize valD ((bs s).take s.size) = v at *
      by_cases hle : v ≤ 1000000000
      ·have i9 : (v : Int) ≤ 1000000000 := by omega
       have HZ : Hid (R = true) := Lib.hid (by rw [← HT.out]; exact decide_eq_true hle)
       go_wp2
       go_ret2
       first | exact ⟨v, by rw [HZ.out] <;> rfl, rfl⟩ | exact ⟨⟨v, by rw [HZ.out] <;> rfl⟩, rfl⟩ | exact ⟨v, by rw [HZ.out] <;> rfl⟩
      ·have i9 : ¬ (v : Int) ≤ 1000000000 := by omega
       have HZ : Hid (R = false) := Lib.hid (by rw [← HT.out]; exact decide_eq_false hle)
       go_wp2
       go_ret2
       first | exact ⟨v, by rw [HZ.out] <;> rfl, rfl⟩ | exact ⟨⟨v, by rw [HZ.out] <;> rfl⟩, rfl⟩ | exact ⟨v, by rw [HZ.out] <;> rfl⟩
def entV (e : Ent) (va vx : Value) : Value := .agg #[.int .i64 e.k, .string e.path, va, .string e.tgt, .int .i64 e.size, .string e.dig, vx]
def tgtB (e : Ent) : Bool := if e.k = 3 then decide (1 ≤ e.tgt.size ∧ e.tgt.size ≤ 200) else if e.k = 5 then dateB (bs e.tgt) else decide (e.tgt.size = 0)
theorem target36_any (w : World) (e : Ent) (va vx : Value) (hs : e.tgt.size ≤ 1000000) : Calls Tryz.prog 208 #[entV e va vx] w fun r w' => r = .returned (.bool (tgtB e)) ∧ Below w.heap.size w w' := by
 obtain ⟨k, path, attrs, t, size, dig, exts⟩ := e
 dsimp only at hs
 obtain ⟨R, hR⟩ : ∃ R, tgtB ⟨k, path, attrs, t, size, dig, exts⟩ = R := ⟨_, rfl⟩
 rw [hR]
 rw [tgtB] at hR
 dsimp only at hR
 rw [entV]
 dsimp only
 have hK := Blk.new w 48 [.int .i64 k, .string path, va, .string t, .int .i64 size, .string dig, vx]
 change Blk (w.alloc (.cells #[.int .i64 k, .string path, va, .string t, .int .i64 size, .string dig, vx] 48)) _ _ _ at hK
 have c0 := hK.cell (i := 0) rfl
 have c3 := hK.cell (i := 3) rfl
 have HB := Lib.hid ((Below.refl w.heap.size w).alloc (Nat.le_refl _) (.cells #[.int .i64 k, .string path, va, .string t, .int .i64 size, .string dig, vx] 48))
 clear hK
 have HD := Lib.hid (fun W => date36_any W t hs)
 by_cases h3 : k = 3
 ·have i1 : (k == 3) = true := by rw [h3]; rfl
  rw [if_pos h3] at hR
  clear h3
  by_cases h1 : 1 ≤ t.size
  ·have i2 : (1 : Int) ≤ t.size := by omega
   by_cases h2 : t.size ≤ 200
   ·have i3 : (t.size : Int) ≤ 200 := by omega
    rw [decide_eq_true ⟨h1, h2⟩] at hR
    have HR := Lib.hid hR
    clear hR
    go_enter Tryz.func208, Tryz.ntmps208
    go_wp2
    go_ret
    exact ⟨by rw [← HR.out] <;> rfl, HB.out⟩
   ·have i3 : ¬ (t.size : Int) ≤ 200 := by omega
    rw [decide_eq_false fun e => h2 e.2] at hR
    have HR := Lib.hid hR
    clear hR
    go_enter Tryz.func208, Tryz.ntmps208
    go_wp2
    go_ret
    exact ⟨by rw [← HR.out] <;> rfl, HB.out⟩
  ·have i2 : ¬ (1 : Int) ≤ t.size := by omega
   rw [decide_eq_false fun e => h1 e.1] at hR
   have HR := Lib.hid hR
   clear hR
   go_enter Tryz.func208, Tryz.ntmps208
   go_wp2
   go_ret
   exact ⟨by rw [← HR.out] <;> rfl, HB.out⟩
 ·have i1 : (k == 3) = false := by rw [beq_eq_false_iff_ne]; exact h3
  rw [if_neg h3] at hR
  clear h3
  by_cases h5 : k = 5
  ·have i2 : (k == 5) = true := by rw [h5]; rfl
   rw [if_pos h5] at hR
   clear h5
   have HR := Lib.hid hR
   clear hR
   go_enter Tryz.func208, Tryz.ntmps208
   go_wp2_with fail
   refine (HD.out _).mono ?_
   rintro e1 w1 ⟨n, rfl, rfl⟩
   go_wp2_with fail
   go_ret
   exact ⟨by rw [HR.out] <;> rfl, HB.out⟩
  ·have i2 : (k == 5) = false := by rw [beq_eq_false_iff_ne]; exact h5
   rw [if_neg h5] at hR
   clear h5
   by_cases h0 : t.size = 0
   ·rw [decide_eq_true h0] at hR
    have e0 : t = ⟨#[]⟩ := by
     apply ByteArray.ext
     exact Array.eq_empty_of_size_eq_zero h0
    subst e0
    have HR := Lib.hid hR
    clear hR h0
    go_enter Tryz.func208, Tryz.ntmps208
    go_wp2
    go_ret
    exact ⟨by rw [← HR.out] <;> rfl, HB.out⟩
   ·have i3 : t.toList.isEmpty = false := isEmptyV h0
    rw [decide_eq_false h0] at hR
    have HR := Lib.hid hR
    clear hR h0
    go_enter Tryz.func208, Tryz.ntmps208
    go_wp2
    go_ret
    exact ⟨by rw [← HR.out] <;> rfl, HB.out⟩
def attrsG : Option ByteArray → List Atr → Int
 | _, [] => 0
 | p, a :: r =>
  if keyB (bs a.k) = false then 7 else if 64 < a.v.size then 6 else
  match p with
  | none => attrsG (some a.k) r
  | some q => if a.k = q then 8 else if Op.bytesLess a.k.toList q.toList = true then 14 else attrsG (some a.k) r
theorem attrsG_key {p : Option ByteArray} {a : Atr} {r : List Atr} (h : keyB (bs a.k) = false) : attrsG p (a :: r) = 7 := by
 cases p <;> rw [attrsG, if_pos h]
theorem attrsG_val {p : Option ByteArray} {a : Atr} {r : List Atr} (h : keyB (bs a.k) = true) (h64 : 64 < a.v.size) : attrsG p (a :: r) = 6 := by
 have hk : ¬ keyB (bs a.k) = false := by rw [h]; decide
 cases p <;> rw [attrsG, if_neg hk, if_pos h64]
theorem attrsG_first {a : Atr} {r : List Atr} (h : keyB (bs a.k) = true) (h64 : ¬ 64 < a.v.size) : attrsG none (a :: r) = attrsG (some a.k) r := by
 have hk : ¬ keyB (bs a.k) = false := by rw [h]; decide
 rw [attrsG, if_neg hk, if_neg h64]
theorem attrsG_next {a : Atr} {q : ByteArray} {r : List Atr} (h : keyB (bs a.k) = true) (h64 : ¬ 64 < a.v.size) : attrsG (some q) (a :: r) = if a.k = q then 8 else if Op.bytesLess a.k.toList q.toList = true then 14 else attrsG (some a.k) r := by
 have hk : ¬ keyB (bs a.k) = false := by rw [h]; decide
 rw [attrsG, if_neg hk, if_neg h64]
def attrsE (l : List Atr) : Int := if 16 < l.length then 6 else attrsG none l
def prevK (l : List Atr) : Nat → Option ByteArray
 | 0 => none
 | j + 1 => (l[j]?).map Atr.k
theorem attrs_any (w : World) (v : Value) (l : List Atr) (hv : SeqAt atrS w v l) (hs : ∀ a ∈ l, a.k.size ≤ 1000000) : Calls Tryz.prog 207 #[v] w fun e w' => e = .returned (.int .i64 (attrsE l)) ∧ Below w.heap.size w w' := by
 have Hv := Lib.hid hv
 obtain ⟨A, c, rfl, h1, h2⟩ := hv.slice
 clear hv
 obtain ⟨R, hR⟩ : ∃ R, attrsE l = R := ⟨_, rfl⟩
 rw [hR]
 rw [attrsE] at hR
 by_cases h16 : 16 < l.length
 ·have i1 : (16 : Int) < l.length := by omega
  rw [if_pos h16] at hR
  have HR := Lib.hid hR
  clear hR
  go_enter Tryz.func207, Tryz.ntmps207
  go_wp2
  go_ret
  exact ⟨by rw [← HR.out] <;> rfl, Below.refl _ _⟩
 ·have i1 : ¬ (16 : Int) < l.length := by omega
  rw [if_neg h16] at hR
  have HR := Lib.hid hR
  have HKy := Lib.hid (fun (W : World) (a : Atr) (ha : a ∈ l) => key_any W a.k (hs a ha))
  clear hR hs
  go_enter Tryz.func207, Tryz.ntmps207
  go_wp2
  go_loopw [3] (fun x wr => ∃ i : Nat, i ≤ l.length ∧ x = .int .i64 (i : Int) ∧ attrsG (prevK l i) (l.drop i) = R ∧ Below w.heap.size w wr) (fun x _ => l.length - (intOf x).toNat)
  case atStart => exact ⟨0, by omega, rfl, by rw [List.drop_zero]; exact HR.out, Below.refl _ _⟩
  case round =>
   obtain ⟨i, hi, rfl, hE, hB⟩ := hrel
   have HE := Lib.hid hE
   have HB := Lib.hid hB
   clear hE hB HR
   by_cases h : i < l.length
   ·have hiI : (i : Int) < l.length := by omega
    obtain ⟨a, ha⟩ : ∃ a, l[i]? = some a := ⟨_, List.getElem?_eq_getElem h⟩
    obtain ⟨_, _, e9, _, _, h4⟩ := Hv.out.below HB.out
    cases e9
    obtain ⟨b, o, cs, rfl, rfl, hc⟩ := h4 i a ha
    have c0 : wr.cell? ⟨b, o + i * 2, none⟩ = some (.string a.k) := hc 0 _ rfl
    have c1 : wr.cell? ⟨b, o + i * 2 + 1, none⟩ = some (.string a.v) := hc 1 _ rfl
    have hd : l.drop i = a :: l.drop (i + 1) := by
     obtain ⟨h1, h2⟩ := List.getElem?_eq_some_iff.1 ha
     rw [List.drop_eq_getElem_cons h1, h2]
    have HG : Hid (attrsG (prevK l i) (a :: l.drop (i + 1)) = R) := Lib.hid (by rw [← hd]; exact HE.out)
    have HN : Hid (prevK l (i + 1) = some a.k) := Lib.hid (by rw [prevK, ha]; rfl)
    have HKa := Lib.hid (fun W => HKy.out W a (List.mem_of_getElem? ha))
    clear hc hd HE
    obtain ⟨K, hK⟩ : ∃ K, keyB (bs a.k) = K := ⟨_, rfl⟩
    rw [hK] at HKa
    cases K with
    | false =>
     have HV : Hid (R = 7) := Lib.hid (by rw [← HG.out, attrsG_key hK])
     clear hK h4 HG
     go_wp2_with fail
     refine (HKa.out _).mono ?_
     rintro e2 w2 ⟨rfl, rfl⟩
     go_wp2_with fail
     go_ret
     exact ⟨by rw [HV.out] <;> rfl, HB.out⟩
    | true =>
     by_cases h64 : 64 < a.v.size
     ·have i2 : (64 : Int) < a.v.size := by omega
      have HV : Hid (R = 6) := Lib.hid (by rw [← HG.out, attrsG_val hK h64])
      clear hK h4 HG h64
      go_wp2_with fail
      refine (HKa.out _).mono ?_
      rintro e2 w2 ⟨rfl, rfl⟩
      go_wp2_with fail
      go_ret
      exact ⟨by rw [HV.out] <;> rfl, HB.out⟩
     ·have i2 : ¬ (64 : Int) < a.v.size := by omega
      by_cases h0 : i = 0
      ·subst h0
       have HG2 : Hid (attrsG (some a.k) (l.drop 1) = R) := Lib.hid (by rw [← HG.out]; exact (attrsG_first hK h64).symm)
       clear hK h4 HG h64
       rw [show ((0 : Nat) : Int) = 0 from rfl]
       rw [Nat.zero_mul, Nat.add_zero] at c0 c1
       go_wp2_with fail
       refine (HKa.out _).mono ?_
       rintro e2 w2 ⟨rfl, rfl⟩
       go_upto_region 10 with fail
       go_quiet (fail)
       go_upto_region 12 with fail
       go_quiet (fail)
       go_wp2
       go_roundw
       case rel => exact ⟨1, by omega, by go_num, by rw [HN.out]; exact HG2.out, zBd HB.out _⟩
       case measure => simp [intOf]; omega
      ·obtain ⟨j, hj⟩ : ∃ j, i = j + 1 := ⟨i - 1, by omega⟩
       have hjl : j < l.length := by omega
       have hjI : (j : Int) < l.length := by omega
       have i0 : (0 : Int) < i := by omega
       have n0 : 0 < i := by omega
       have dn : decide (0 < i) = true := decide_eq_true n0
       obtain ⟨p, hp⟩ : ∃ p, l[j]? = some p := ⟨_, List.getElem?_eq_getElem hjl⟩
       have hwr : IntKind.i64.wrap ((i : Int) - 1) = (j : Int) := by rw [IntWalk.i64_in _ (by omega)]; omega
       have hwr2 : (i : Int) - 1 = j := by omega
       have HP : Hid (prevK l i = some p.k) := Lib.hid (by rw [hj, prevK, hp]; rfl)
       obtain ⟨b', o', cs, e8, rfl, hd⟩ := h4 j p hp
       cases e8
       have d0 : wr.cell? ⟨b, o + j * 2, none⟩ = some (.string p.k) := hd 0 _ rfl
       clear hd h4 hp hj hjl h0
       have Hv2 := Lib.hid (attrsG_next (q := p.k) (r := l.drop (i + 1)) hK (by omega : ¬ 64 < a.v.size))
       have HG2 : Hid ((if a.k = p.k then (8 : Int) else if Op.bytesLess a.k.toList p.k.toList = true then 14 else attrsG (some a.k) (l.drop (i + 1))) = R) := Lib.hid (by rw [← HG.out, HP.out]; exact Hv2.out.symm)
       clear hK HG HP Hv2 h64
       obtain ⟨ak, av⟩ := a
       obtain ⟨pk, pv⟩ := p
       dsimp only at c0 c1 d0 HG2 HN HKa i2
       by_cases heq : ak = pk
       ·subst heq
        have HV : Hid (R = 8) := Lib.hid (by rw [← HG2.out, if_pos rfl])
        clear HG2
        go_wp2_with fail
        refine (HKa.out _).mono ?_
        rintro e2 w2 ⟨rfl, rfl⟩
        go_upto_region 10 with fail
        go_quiet (fail)
        go_wp2
        go_ret
        exact ⟨by rw [HV.out] <;> rfl, zBd HB.out _⟩
       ·have hb0 : (ak == pk) = false := beqV_false heq
        have hl0 : ¬ ak.toList = pk.toList := fun e => heq (by rw [ByteArray.toList_eq, ByteArray.toList_eq] at e; exact ByteArray.ext (Array.toList_inj.1 e))
        have hlb : (ak.toList == pk.toList) = false := by rw [beq_eq_false_iff_ne]; exact hl0
        obtain ⟨B, hB⟩ : ∃ B, Op.bytesLess ak.toList pk.toList = B := ⟨_, rfl⟩
        have HG3 : Hid ((if B = true then (14 : Int) else attrsG (some ak) (l.drop (i + 1))) = R) := Lib.hid (by rw [← HG2.out, if_neg heq, hB])
        clear HG2 heq
        cases B with
        | true =>
         have HV : Hid (R = 14) := Lib.hid (by rw [← HG3.out, if_pos rfl])
         clear HG3
         go_wp2_with fail
         refine (HKa.out _).mono ?_
         rintro e2 w2 ⟨rfl, rfl⟩
         go_upto_region 10 with fail
         go_quiet (fail)
         go_upto_region 12 with fail
         go_quiet (fail)
         go_wp2
         go_ret
         exact ⟨by rw [HV.out] <;> rfl, by first | exact zBd HB.out _ | exact zBd (zBd HB.out _) _⟩
        | false =>
         have HV : Hid (attrsG (some ak) (l.drop (i + 1)) = R) := Lib.hid (by rw [← HG3.out, if_neg (by decide)])
         clear HG3
         go_wp2_with fail
         refine (HKa.out _).mono ?_
         rintro e2 w2 ⟨rfl, rfl⟩
         go_upto_region 10 with fail
         go_quiet (fail)
         go_upto_region 12 with fail
         go_quiet (fail)
         go_wp2
         go_roundw
         case rel => exact ⟨i + 1, by omega, by go_num, by rw [HN.out]; exact HV.out, zBd HB.out _⟩
         case measure => simp [intOf]; omega
   ·obtain rfl : i = l.length := by omega
    have hiI : ¬ ((l.length : Nat) : Int) < (l.length : Int) := by omega
    have HV : Hid (R = 0) := Lib.hid (by rw [← HE.out, List.drop_length, attrsG])
    go_wp2
    go_ret
    exact ⟨by rw [HV.out] <;> rfl, HB.out⟩
theorem isEmptyV0 : (⟨#[]⟩ : ByteArray).toList.isEmpty = true := by
 rw [ByteArray.toList_eq]
 rfl
def extB (x : Ext) : Bool := decide (0 ≤ x.s ∧ x.s ≤ 255 ∧ 0 ≤ x.o ∧ x.o ≤ 2147483647 ∧ 1 ≤ x.l ∧ x.l ≤ 65536 ∧ ¬ (x.s = 0 ∧ x.o ≠ 0))
def sumX : List Ext → Int
 | [] => 0
 | x :: r => x.l + sumX r
structure EntOk (e : Ent) : Prop where
 kind : 1 ≤ e.k ∧ e.k ≤ 6
 path : pathE (bs e.path) = 0
 named : e.path.size = 0 → 5 ≤ e.k
 attrs : attrsE e.attrs = 0
 bare : 0 < e.attrs.length → e.k ≤ 3
 tgt : tgtB e = true
 size : 0 ≤ e.size ∧ e.size ≤ 65536 ∧ (e.k ≠ 1 → e.size = 0)
 dig : (e.k = 1 → e.dig.size = 32) ∧ (e.k ≠ 1 → e.dig.size = 0)
 exts : (0 < e.exts.length → e.k = 1) ∧ (∀ x ∈ e.exts, extB x = true) ∧ sumX e.exts = e.size
def Chk (p : Prop) (r : Ending) : Prop := ∃ n : Int, r = .returned (.int .i64 n) ∧ (n = 0 ↔ p)
theorem Chk.no {p : Prop} {n : Int} (hn : n ≠ 0) (h : ¬ p) : Chk p (.returned (.int .i64 n)) := ⟨n, rfl, fun e => absurd e hn, fun e => absurd e h⟩
theorem Chk.yes {p : Prop} (h : p) : Chk p (.returned (.int .i64 0)) := ⟨0, rfl, fun _ => h, fun _ => rfl⟩
theorem nameK_none {k : Int} (h : ¬ (1 ≤ k ∧ k ≤ 6)) : nameK k = ⟨#[]⟩ := by
 unfold nameK
 rw [if_neg (by omega), if_neg (by omega), if_neg (by omega), if_neg (by omega), if_neg (by omega), if_neg (by omega)]
theorem nameK_some {k : Int} (h : 1 ≤ k ∧ k ≤ 6) : 0 < (nameK k).size ∧ (nameK k).size ≤ 7 := by
 have : k = 1 ∨ k = 2 ∨ k = 3 ∨ k = 4 ∨ k = 5 ∨ k = 6 := by omega
 rcases this with rfl | rfl | rfl | rfl | rfl | rfl <;> decide
theorem check36_any (w : World) (e : Ent) (va vx : Value) (hva : SeqAt atrS w va e.attrs) (hvx : SeqAt extS w vx e.exts) (hp : e.path.size ≤ 1000000) (ht : e.tgt.size ≤ 1000000) (ha : ∀ a ∈ e.attrs, a.k.size ≤ 1000000) (hx : e.exts.length ≤ 100000) :
  Calls Tryz.prog 132 #[entV e va vx] w fun r w' => Chk (EntOk e) r ∧ Below w.heap.size w w' := by
 have HT := Lib.hid (fun W => target36_any W e va vx ht)
 have HTg := Lib.hid (fun h : EntOk e => h.tgt)
 obtain ⟨P, hP⟩ : ∃ P, EntOk e = P := ⟨_, rfl⟩
 have HP := Lib.hid hP
 rw [hP]
 clear hP HTg
 obtain ⟨TG, hTG⟩ : ∃ T, tgtB e = T := ⟨_, rfl⟩
 rw [hTG] at HT
 have HTG := Lib.hid hTG
 clear hTG
 obtain ⟨k, path, attrs, t, size, dig, exts⟩ := e
 dsimp only at hva hvx hp ht ha hx
 have HPa := Lib.hid (fun W => path_any W path hp)
 have Hva := Lib.hid hva
 have Hvx := Lib.hid hvx
 obtain ⟨Aa, ca, rfl, ha1, ha2⟩ := hva.slice
 obtain ⟨Ax, cx, rfl, hx1, hx2⟩ := hvx.slice
 clear hva hvx
 rw [entV] at HT ⊢
 dsimp only at HT ⊢
 have hK := Blk.new w 48 [.int .i64 k, .string path, .slice Aa attrs.length ca, .string t, .int .i64 size, .string dig, .slice Ax exts.length cx]
 change Blk (w.alloc (.cells #[.int .i64 k, .string path, .slice Aa attrs.length ca, .string t, .int .i64 size, .string dig, .slice Ax exts.length cx] 48)) _ _ _ at hK
 have HB0 := Lib.hid ((Below.refl w.heap.size w).alloc (Nat.le_refl _) (.cells #[.int .i64 k, .string path, .slice Aa attrs.length ca, .string t, .int .i64 size, .string dig, .slice Ax exts.length cx] 48))
 have HK := Lib.hid hK
 have c0 := hK.cell (i := 0) rfl
 clear hK
 obtain ⟨N, hN⟩ : ∃ N, nameK k = N := ⟨_, rfl⟩
 have HNm := Lib.hid (fun W => name_any W k)
 rw [hN] at HNm
 by_cases hk : 1 ≤ k ∧ k ≤ 6
 ·have hn0 : N.toList.isEmpty = false := isEmptyV (by rw [← hN]; have := (nameK_some hk).1; omega)
  have HNk := Lib.hid hk
  clear hN hk
  go_enter Tryz.func132, Tryz.ntmps132
  go_wp2_with fail
  refine (HNm.out _).mono ?_
  rintro e1 w1 ⟨rfl, rfl⟩
  generalize w.alloc (.cells #[.int .i64 k, .string path, .slice Aa attrs.length ca, .string t, .int .i64 size, .string dig, .slice Ax exts.length cx] 48) = wb at *
  have c1 := HK.out.cell (i := 1) rfl
  go_wp2_with fail
  refine (HPa.out _).mono ?_
  rintro e2 w2 ⟨rfl, hb2⟩
  have HK2 := Lib.hid (HK.out.kept hb2)
  have HB2 := Lib.hid (HB0.out.trans (hb2.mono HB0.out.size))
  clear hb2 HK HB0 c0 c1
  by_cases hpe : pathE (bs path) = 0
  ·have HPe := Lib.hid hpe
   rw [hpe]
   clear hpe
   have c0 := HK2.out.cell (i := 0) rfl
   have c1 := HK2.out.cell (i := 1) rfl
   obtain ⟨bad1, hb1⟩ : ∃ b, decide (path.size = 0 ∧ k < 5) = b := ⟨_, rfl⟩
   go_upto_region 6 with fail
   go_cut [26] (fun s wx => s = .bool bad1 ∧ w2 = wx)
   case first =>
    by_cases h0 : path.size = 0
    ·have e0 : path.toList.isEmpty = true := by
      rw [show path = ⟨#[]⟩ by apply ByteArray.ext; exact Array.eq_empty_of_size_eq_zero h0]
      exact isEmptyV0
     by_cases h5 : k < 5
     ·have HE : Hid (bad1 = true) := Lib.hid (by rw [← hb1]; exact decide_eq_true ⟨h0, h5⟩)
      clear hb1 h0
      go_wp2_with fail
      go_meet
      exact ⟨by rw [HE.out], rfl⟩
     ·have HE : Hid (bad1 = false) := Lib.hid (by rw [← hb1]; exact decide_eq_false fun h => h5 h.2)
      clear hb1 h0
      go_wp2_with fail
      go_meet
      exact ⟨by rw [HE.out], rfl⟩
    ·have e0 : path.toList.isEmpty = false := isEmptyV h0
     have HE : Hid (bad1 = false) := Lib.hid (by rw [← hb1]; exact decide_eq_false fun h => h0 h.1)
     clear hb1 h0
     go_wp2_with fail
     go_meet
     exact ⟨by rw [HE.out], rfl⟩
   case rest =>
    obtain ⟨rfl, rfl⟩ := hcut
    cases bad1 with
    | true =>
     have h := of_decide_eq_true hb1
     have HV : Hid (¬ P) := Lib.hid (by
      rw [← HP.out]
      intro h'
      have := h'.named h.1
      dsimp only at this
      omega)
     clear h hb1
     go_wp2_with fail
     go_ret
     exact ⟨Chk.no (by decide) HV.out, HB2.out⟩
    | false =>
     have HNd : Hid (path.size = 0 → 5 ≤ k) := Lib.hid (fun q => by
      by_cases q2 : k < 5
      ·exact absurd (decide_eq_true (p := path.size = 0 ∧ k < 5) ⟨q, q2⟩) (by rw [hb1]; decide)
      ·omega)
     clear hb1
     have c2 := HK2.out.cell (i := 2) rfl
     have HAt : Hid (Calls Tryz.prog 207 #[.slice Aa attrs.length ca] w2 fun e w' => e = .returned (.int .i64 (attrsE attrs)) ∧ Below w2.heap.size w2 w') := Lib.hid (attrs_any w2 _ attrs (Hva.out.below HB2.out) ha)
     go_wp2_with fail
     refine HAt.out.mono ?_
     rintro e3 w3 ⟨rfl, hb3⟩
     have HK3 := Lib.hid (HK2.out.kept hb3)
     have HB3 := Lib.hid (HB2.out.trans (hb3.mono HB2.out.size))
     clear hb3 HK2 HB2 HAt c0 c1 c2
     by_cases hae : attrsE attrs = 0
     ·have HAe := Lib.hid hae
      rw [hae]
      clear hae
      have c0 := HK3.out.cell (i := 0) rfl
      have c2 := HK3.out.cell (i := 2) rfl
      have c1 := HK3.out.cell (i := 1) rfl
      have c3 := HK3.out.cell (i := 3) rfl
      have c4 := HK3.out.cell (i := 4) rfl
      have c5 := HK3.out.cell (i := 5) rfl
      have c6 := HK3.out.cell (i := 6) rfl
      obtain ⟨bad2, hb2⟩ : ∃ b, (decide (0 < attrs.length ∧ 3 < k) || !TG) = b := ⟨_, rfl⟩
      go_upto_region 11 with fail
      go_cut [46] (fun s wx => ∃ W, s = .bool bad2 ∧ W = wx ∧ Below w3.heap.size w3 W)
      case first =>
       by_cases hb : 0 < attrs.length ∧ 3 < k
       ·have f1 : (0 : Int) < attrs.length := by omega
        have f2 : 3 < k := hb.2
        have HE : Hid (bad2 = true) := Lib.hid (by rw [← hb2, decide_eq_true hb, Bool.true_or])
        clear hb hb2
        go_wp2_with fail
        go_meet
        exact ⟨_, by rw [HE.out], rfl, Below.refl _ _⟩
       ·have HE : Hid (bad2 = !TG) := Lib.hid (by rw [← hb2, decide_eq_false hb, Bool.false_or])
        have hz2 : (¬ (0 : Int) < attrs.length) ∨ ((0 : Int) < attrs.length ∧ ¬ 3 < k) := by
         by_cases q : 0 < attrs.length
         ·exact .inr ⟨by omega, fun q2 => hb ⟨q, q2⟩⟩
         ·exact .inl (by omega)
        clear hb hb2
        rcases hz2 with f1 | ⟨f1, f2⟩
        ·go_wp2_with fail
         refine (HT.out _).mono ?_
         rintro e4 w4 ⟨rfl, hb4⟩
         go_wp2_with fail
         go_meet
         exact ⟨_, by rw [HE.out], rfl, hb4⟩
        ·go_wp2_with fail
         refine (HT.out _).mono ?_
         rintro e4 w4 ⟨rfl, hb4⟩
         go_wp2_with fail
         go_meet
         exact ⟨_, by rw [HE.out], rfl, hb4⟩
      case rest =>
       obtain ⟨w4, rfl, rfl, hb4⟩ := hcut
       have HK4 := Lib.hid (HK3.out.kept hb4)
       have HB4 := Lib.hid (HB3.out.trans (hb4.mono HB3.out.size))
       clear hb4 HK3 HB3 c0 c1 c2 c3 c4 c5 c6
       cases bad2 with
       | true =>
        have HV : Hid (¬ P) := Lib.hid (by
         rw [← HP.out]
         intro h
         have h1 := h.bare
         have h2 := h.tgt
         rw [HTG.out] at h2
         rw [h2, Bool.not_true, Bool.or_false] at hb2
         have h3 := of_decide_eq_true hb2
         have := h1 h3.1
         dsimp only at this
         omega)
        clear hb2
        go_wp2_with fail
        go_ret
        exact ⟨Chk.no (by decide) HV.out, HB4.out⟩
       | false =>
        have HTt : Hid (TG = true) := Lib.hid (by
         cases TG with
         | true => rfl
         | false => rw [Bool.not_false, Bool.or_true] at hb2; cases hb2)
        have HBa : Hid (0 < attrs.length → k ≤ 3) := Lib.hid (fun q => by
         by_cases q2 : 3 < k
         ·rw [decide_eq_true ⟨q, q2⟩, Bool.true_or] at hb2; cases hb2
         ·omega)
        clear hb2
        have c0 := HK4.out.cell (i := 0) rfl
        have c4 := HK4.out.cell (i := 4) rfl
        have c5 := HK4.out.cell (i := 5) rfl
        have c6 := HK4.out.cell (i := 6) rfl
        by_cases s1 : size < 0
        ·have HV : Hid (¬ P) := Lib.hid (by rw [← HP.out]; intro h; have := h.size.1; dsimp only at this; omega)
         go_wp2_with fail
         go_ret
         exact ⟨Chk.no (by decide) HV.out, HB4.out⟩
        ·by_cases s2 : 65536 < size
         ·have HV : Hid (¬ P) := Lib.hid (by rw [← HP.out]; intro h; have := h.size.2.1; dsimp only at this; omega)
          go_wp2_with fail
          go_ret
          exact ⟨Chk.no (by decide) HV.out, HB4.out⟩
         ·by_cases k1 : k = 1
          ·have kb : (k == 1) = true := by rw [k1]; rfl
           by_cases dg : dig.size = 32
           ·have db : ((dig.size : Int) != 32) = false := by rw [dg]; rfl
            have HSi : Hid (0 ≤ size ∧ size ≤ 65536 ∧ (k ≠ 1 → size = 0)) := Lib.hid ⟨by omega, by omega, fun h => absurd k1 h⟩
            have HDi : Hid ((k = 1 → dig.size = 32) ∧ (k ≠ 1 → dig.size = 0)) := Lib.hid ⟨fun _ => dg, fun h => absurd k1 h⟩
            have HX1 : Hid (0 < exts.length → k = 1) := Lib.hid (fun _ => k1)
            clear dg k1
            go_wp2
            go_loopw [6, 7, 8] (fun y x _ wr => ∃ (i : Nat) (S : Int), i ≤ exts.length ∧ x = .int .i64 (i : Int) ∧ y = .int .i64 S ∧ 0 ≤ S ∧ S ≤ 65536 * (i : Int) ∧ S + sumX (exts.drop i) = sumX exts ∧ (∀ z ∈ exts.take i, extB z = true) ∧ Below w4.heap.size w4 wr) (fun _ x _ _ => exts.length - (intOf x).toNat)
            case atStart => exact ⟨0, 0, by omega, rfl, rfl, by omega, by omega, by rw [List.drop_zero]; omega, fun z hz => by simp at hz, Below.refl _ _⟩
            case round =>
             obtain ⟨i, S, hi, rfl, rfl, hS0, hS1, hS, hall, hB⟩ := hrel
             have HS := Lib.hid hS
             have HB := Lib.hid hB
             have HAl := Lib.hid hall
             have hKr := HK4.out.kept hB
             clear hS hB hall c4 c5 c6
             have c6 := hKr.cell (i := 6) rfl
             have c4 := hKr.cell (i := 4) rfl
             clear hKr
             by_cases h : i < exts.length
             ·have hiI : (i : Int) < exts.length := by omega
              obtain ⟨x, hx'⟩ : ∃ x, exts[i]? = some x := ⟨_, List.getElem?_eq_getElem h⟩
              have hxm := List.mem_of_getElem? hx'
              have hd : exts.drop i = x :: exts.drop (i + 1) := by
               obtain ⟨h1, h2⟩ := List.getElem?_eq_some_iff.1 hx'
               rw [List.drop_eq_getElem_cons h1, h2]
              have HF : Hid (extB x = false → ¬ P) := Lib.hid (fun e => by
               rw [← HP.out]
               intro h
               have := h.exts.2.1 x hxm
               rw [e] at this
               cases this)
              have HAll : Hid (extB x = true → ∀ z ∈ exts.take (i + 1), extB z = true) := Lib.hid (fun e z hz => by
               rw [List.take_add_one, hx', Option.toList_some] at hz
               rcases List.mem_append.1 hz with hz | hz
               ·exact HAl.out z hz
               ·rw [List.mem_singleton.1 hz]; exact e)
              have HS3 : Hid (S + x.l + sumX (exts.drop (i + 1)) = sumX exts) := Lib.hid (by
               have := HS.out
               rw [hd, sumX] at this
               omega)
              obtain ⟨_, _, e9, _, _, h4⟩ := Hvx.out.below (HB4.out.trans (HB.out.mono HB4.out.size))
              cases e9
              obtain ⟨b, o, cs, rfl, rfl, hc⟩ := h4 i x hx'
              obtain ⟨x0, x1, x2⟩ := x
              have e0 : wr.cell? ⟨b, o + i * 3, none⟩ = some (.int .i64 x0) := hc 0 _ rfl
              have e1 : wr.cell? ⟨b, o + i * 3 + 1, none⟩ = some (.int .i64 x1) := hc 1 _ rfl
              have e2 : wr.cell? ⟨b, o + i * 3 + 2, none⟩ = some (.int .i64 x2) := hc 2 _ rfl
              dsimp only at HS3
              clear hc h4 hx' hd hxm HS HAl
              have hF := Blk.new wr 80 [.int .i64 x0, .int .i64 x1, .int .i64 x2]
              change Blk (wr.alloc (.cells #[.int .i64 x0, .int .i64 x1, .int .i64 x2] 80)) _ _ _ at hF
              have hBz := HB.out.alloc HB.out.size (.cells #[.int .i64 x0, .int .i64 x1, .int .i64 x2] 80)
              have hKz := HK4.out.kept hBz
              have HBz := Lib.hid hBz
              have HBw := Lib.hid (HB4.out.trans (hBz.mono HB4.out.size))
              clear hBz HB
              go_upto_region 23 with fail
              clear e0 e1 e2 c4 c6
              generalize wr.alloc (.cells #[.int .i64 x0, .int .i64 x1, .int .i64 x2] 80) = wz at *
              generalize wr.heap.size = fb at *
              have c6 := hKz.cell (i := 6) rfl
              have c4 := hKz.cell (i := 4) rfl
              have g0 := hF.cell (i := 0) rfl
              have g1 := hF.cell (i := 1) rfl
              have g2 := hF.cell (i := 2) rfl
              clear hF hKz
              by_cases y0 : x0 < 0
              ·have HV : Hid (¬ P) := Lib.hid (HF.out (by rw [extB]; exact decide_eq_false (by dsimp only; omega)))
               go_wp2
               go_ret
               exact ⟨Chk.no (by decide) HV.out, HBw.out⟩
              ·by_cases y1 : 255 < x0
               ·have HV : Hid (¬ P) := Lib.hid (HF.out (by rw [extB]; exact decide_eq_false (by dsimp only; omega)))
                go_wp2
                go_ret
                exact ⟨Chk.no (by decide) HV.out, HBw.out⟩
               ·by_cases y2 : x1 < 0
                ·have HV : Hid (¬ P) := Lib.hid (HF.out (by rw [extB]; exact decide_eq_false (by dsimp only; omega)))
                 go_wp2
                 go_ret
                 exact ⟨Chk.no (by decide) HV.out, HBw.out⟩
                ·by_cases y3 : 2147483647 < x1
                 ·have HV : Hid (¬ P) := Lib.hid (HF.out (by rw [extB]; exact decide_eq_false (by dsimp only; omega)))
                  go_wp2
                  go_ret
                  exact ⟨Chk.no (by decide) HV.out, HBw.out⟩
                 ·by_cases y4 : x2 < 1
                  ·have HV : Hid (¬ P) := Lib.hid (HF.out (by rw [extB]; exact decide_eq_false (by dsimp only; omega)))
                   go_wp2
                   go_ret
                   exact ⟨Chk.no (by decide) HV.out, HBw.out⟩
                  ·by_cases y5 : 65536 < x2
                   ·have HV : Hid (¬ P) := Lib.hid (HF.out (by rw [extB]; exact decide_eq_false (by dsimp only; omega)))
                    go_wp2
                    go_ret
                    exact ⟨Chk.no (by decide) HV.out, HBw.out⟩
                   ·by_cases y6 : x0 = 0
                    ·have z6 : (x0 == 0) = true := by rw [y6]; rfl
                     by_cases y7 : x1 = 0
                     ·have z7 : (x1 != 0) = false := by rw [y7]; rfl
                      have HXB : Hid (extB ⟨x0, x1, x2⟩ = true) := Lib.hid (by rw [extB]; exact decide_eq_true (by dsimp only; omega))
                      have hS2 : S + x2 ≤ 65536 * ((i : Int) + 1) := by omega
                      have hS3 : 0 ≤ S + x2 := by omega
                      go_wp2
                      go_roundw
                      case rel => exact ⟨i + 1, S + x2, by omega, by go_num, by go_num, by omega, by omega, HS3.out, HAll.out HXB.out, HBz.out⟩
                      case measure => simp [intOf]; omega
                     ·have z7 : (x1 != 0) = true := by rw [bne_iff_ne]; exact y7
                      have HV : Hid (¬ P) := Lib.hid (HF.out (by rw [extB]; exact decide_eq_false (by dsimp only; omega)))
                      go_wp2
                      go_ret
                      exact ⟨Chk.no (by decide) HV.out, HBw.out⟩
                    ·have z6 : (x0 == 0) = false := by rw [beq_eq_false_iff_ne]; exact y6
                     have HXB : Hid (extB ⟨x0, x1, x2⟩ = true) := Lib.hid (by rw [extB]; exact decide_eq_true (by dsimp only; omega))
                     have hS2 : S + x2 ≤ 65536 * ((i : Int) + 1) := by omega
                     have hS3 : 0 ≤ S + x2 := by omega
                     go_wp2
                     go_roundw
                     case rel => exact ⟨i + 1, S + x2, by omega, by go_num, by go_num, by omega, by omega, HS3.out, HAll.out HXB.out, HBz.out⟩
                     case measure => simp [intOf]; omega
             ·obtain rfl : i = exts.length := by omega
              have hiI : ¬ ((exts.length : Nat) : Int) < (exts.length : Int) := by omega
              have hS' := HS.out
              rw [List.drop_length, sumX, Int.add_zero] at hS'
              have hAll := HAl.out
              rw [List.take_length] at hAll
              by_cases hq : S = size
              ·have HV : Hid P := Lib.hid (by
                rw [← HP.out]
                exact ⟨HNk.out, HPe.out, HNd.out, HAe.out, HBa.out, (HTG.out.trans HTt.out), HSi.out, HDi.out, HX1.out, hAll, by dsimp only; omega⟩)
               have hz0 : (S != size) = false := by rw [hq]; simp
               clear hS' hAll hq
               go_wp2
               go_ret
               exact ⟨Chk.yes HV.out, HB4.out.trans (HB.out.mono HB4.out.size)⟩
              ·have HV : Hid (¬ P) := Lib.hid (by
                rw [← HP.out]
                intro h
                have h2 := h.exts.2.2
                dsimp only at h2
                exact hq (by omega))
               have hz0 : (S != size) = true := by rw [bne_iff_ne]; exact hq
               clear hS' hAll hq
               go_wp2
               go_ret
               exact ⟨Chk.no (by decide) HV.out, HB4.out.trans (HB.out.mono HB4.out.size)⟩
           ·have db : ((dig.size : Int) != 32) = true := by rw [bne_iff_ne]; omega
            have HV : Hid (¬ P) := Lib.hid (by rw [← HP.out]; intro h; exact dg (h.dig.1 k1))
            clear dg k1
            go_wp2_with fail
            go_ret
            exact ⟨Chk.no (by decide) HV.out, HB4.out⟩
          ·have kb : (k == 1) = false := by rw [beq_eq_false_iff_ne]; exact k1
           by_cases sz : size = 0
           ·subst sz
            by_cases dg : dig.size = 0
            ·have db : dig.toList.isEmpty = true := by
              rw [show dig = ⟨#[]⟩ by apply ByteArray.ext; exact Array.eq_empty_of_size_eq_zero dg]
              exact isEmptyV0
             have HSi : Hid ((0 : Int) ≤ 0 ∧ (0 : Int) ≤ 65536 ∧ (k ≠ 1 → (0 : Int) = 0)) := Lib.hid ⟨by omega, by omega, fun _ => rfl⟩
             have HDi : Hid ((k = 1 → dig.size = 32) ∧ (k ≠ 1 → dig.size = 0)) := Lib.hid ⟨fun h => absurd h k1, fun _ => dg⟩
             clear dg
             go_wp2
             go_loopw [6, 7, 8] (fun y x _ wr => ∃ (i : Nat) (S : Int), i = 0 ∧ i ≤ exts.length ∧ x = .int .i64 (i : Int) ∧ y = .int .i64 S ∧ 0 ≤ S ∧ S ≤ 65536 * (i : Int) ∧ S + sumX (exts.drop i) = sumX exts ∧ (∀ z ∈ exts.take i, extB z = true) ∧ Below w4.heap.size w4 wr) (fun _ x _ _ => exts.length - (intOf x).toNat)
             case atStart => exact ⟨0, 0, rfl, by omega, rfl, rfl, by omega, by omega, by rw [List.drop_zero]; omega, fun z hz => by simp at hz, Below.refl _ _⟩
             case round =>
              obtain ⟨i, S, hi0, hi, rfl, rfl, hS0, hS1, hS, hall, hB⟩ := hrel
              have HI0 := Lib.hid hi0
              clear hi0
              have HS := Lib.hid hS
              have HB := Lib.hid hB
              have HAl := Lib.hid hall
              have hKr := HK4.out.kept hB
              clear hS hB hall c4 c5 c6
              have c6 := hKr.cell (i := 6) rfl
              have c4 := hKr.cell (i := 4) rfl
              clear hKr
              by_cases h : i < exts.length
              ·have hiI : (i : Int) < exts.length := by omega
               obtain ⟨x, hx'⟩ : ∃ x, exts[i]? = some x := ⟨_, List.getElem?_eq_getElem h⟩
               have hxm := List.mem_of_getElem? hx'
               have hd : exts.drop i = x :: exts.drop (i + 1) := by
                obtain ⟨h1, h2⟩ := List.getElem?_eq_some_iff.1 hx'
                rw [List.drop_eq_getElem_cons h1, h2]
               have HF : Hid (extB x = false → ¬ P) := Lib.hid (fun e => by
                rw [← HP.out]
                intro h
                have := h.exts.2.1 x hxm
                rw [e] at this
                cases this)
               have HAll : Hid (extB x = true → ∀ z ∈ exts.take (i + 1), extB z = true) := Lib.hid (fun e z hz => by
                rw [List.take_add_one, hx', Option.toList_some] at hz
                rcases List.mem_append.1 hz with hz | hz
                ·exact HAl.out z hz
                ·rw [List.mem_singleton.1 hz]; exact e)
               have HS3 : Hid (S + x.l + sumX (exts.drop (i + 1)) = sumX exts) := Lib.hid (by
                have := HS.out
                rw [hd, sumX] at this
                omega)
               obtain ⟨_, _, e9, _, _, h4⟩ := Hvx.out.below (HB4.out.trans (HB.out.mono HB4.out.size))
               cases e9
               obtain ⟨b, o, cs, rfl, rfl, hc⟩ := h4 i x hx'
               obtain ⟨x0, x1, x2⟩ := x
               have e0 : wr.cell? ⟨b, o + i * 3, none⟩ = some (.int .i64 x0) := hc 0 _ rfl
               have e1 : wr.cell? ⟨b, o + i * 3 + 1, none⟩ = some (.int .i64 x1) := hc 1 _ rfl
               have e2 : wr.cell? ⟨b, o + i * 3 + 2, none⟩ = some (.int .i64 x2) := hc 2 _ rfl
               dsimp only at HS3
               clear hc h4 hx' hd hxm HS HAl
               have hF := Blk.new wr 80 [.int .i64 x0, .int .i64 x1, .int .i64 x2]
               change Blk (wr.alloc (.cells #[.int .i64 x0, .int .i64 x1, .int .i64 x2] 80)) _ _ _ at hF
               have hBz := HB.out.alloc HB.out.size (.cells #[.int .i64 x0, .int .i64 x1, .int .i64 x2] 80)
               have hKz := HK4.out.kept hBz
               have HBz := Lib.hid hBz
               have HBw := Lib.hid (HB4.out.trans (hBz.mono HB4.out.size))
               clear hBz HB
               go_upto_region 23 with fail
               clear e0 e1 e2 c4 c6
               generalize wr.alloc (.cells #[.int .i64 x0, .int .i64 x1, .int .i64 x2] 80) = wz at *
               generalize wr.heap.size = fb at *
               have c6 := hKz.cell (i := 6) rfl
               have c4 := hKz.cell (i := 4) rfl
               have g0 := hF.cell (i := 0) rfl
               have g1 := hF.cell (i := 1) rfl
               have g2 := hF.cell (i := 2) rfl
               clear hF hKz
               have HV : Hid (¬ P) := Lib.hid (by
                rw [← HP.out]
                intro h'
                exact k1 (h'.exts.1 (by show 0 < exts.length; omega)))
               go_wp2
               go_ret
               exact ⟨Chk.no (by decide) HV.out, HBw.out⟩
              ·obtain rfl : i = exts.length := by omega
               have hiI : ¬ ((exts.length : Nat) : Int) < (exts.length : Int) := by omega
               have hS' := HS.out
               rw [List.drop_length, sumX, Int.add_zero] at hS'
               have hAll := HAl.out
               rw [List.take_length] at hAll
               by_cases hq : S = 0
               ·have HV : Hid P := Lib.hid (by
                 rw [← HP.out]
                 exact ⟨HNk.out, HPe.out, HNd.out, HAe.out, HBa.out, (HTG.out.trans HTt.out), ⟨by show (0 : Int) ≤ 0; omega, by show (0 : Int) ≤ 65536; omega, fun _ => rfl⟩, HDi.out, (fun q => absurd q (by have h0 := HI0.out; show ¬ 0 < exts.length; omega)), hAll, by dsimp only; omega⟩)
                have hz0 : (S != 0) = false := by rw [hq]; simp
                clear hS' hAll hq
                go_wp2
                go_ret
                exact ⟨Chk.yes HV.out, HB4.out.trans (HB.out.mono HB4.out.size)⟩
               ·have HV : Hid (¬ P) := Lib.hid (by
                 rw [← HP.out]
                 intro h
                 have h2 := h.exts.2.2
                 dsimp only at h2
                 exact hq (by omega))
                have hz0 : (S != 0) = true := by rw [bne_iff_ne]; exact hq
                clear hS' hAll hq
                go_wp2
                go_ret
                exact ⟨Chk.no (by decide) HV.out, HB4.out.trans (HB.out.mono HB4.out.size)⟩
            ·have db : dig.toList.isEmpty = false := isEmptyV dg
             have HV : Hid (¬ P) := Lib.hid (by rw [← HP.out]; intro h; exact dg (h.dig.2 k1))
             clear dg k1
             go_wp2_with fail
             go_ret
             exact ⟨Chk.no (by decide) HV.out, HB4.out⟩
           ·have sb : (size != 0) = true := by rw [bne_iff_ne]; exact sz
            have HV : Hid (¬ P) := Lib.hid (by rw [← HP.out]; intro h; exact sz (h.size.2.2 k1))
            clear sz k1
            go_wp2_with fail
            go_ret
            exact ⟨Chk.no (by decide) HV.out, HB4.out⟩
     ·have hne : (attrsE attrs != 0) = true := by rw [bne_iff_ne]; exact hae
      have HV : Hid (¬ P) := Lib.hid (by rw [← HP.out]; exact fun h => hae h.attrs)
      clear hae
      generalize attrsE attrs = ae at *
      go_wp2_with fail
      go_ret
      exact ⟨Chk.no (by rintro rfl; cases hne) HV.out, HB3.out⟩
  ·have hne : (pathE (bs path) != 0) = true := by rw [bne_iff_ne]; exact hpe
   have HV : Hid (¬ P) := Lib.hid (by rw [← HP.out]; exact fun h => hpe h.path)
   clear hpe
   generalize pathE (bs path) = pe at *
   go_wp2_with fail
   go_ret
   exact ⟨Chk.no (by rintro rfl; cases hne) HV.out, HB2.out⟩
 ·have hn0 : N = ⟨#[]⟩ := by rw [← hN]; exact nameK_none hk
  subst hn0
  have HV : Hid (¬ P) := Lib.hid (by rw [← HP.out]; exact fun h => hk h.kind)
  clear hN hk
  go_enter Tryz.func132, Tryz.ntmps132
  go_wp2_with fail
  refine (HNm.out _).mono ?_
  rintro e1 w1 ⟨rfl, rfl⟩
  go_wp2_with fail
  go_ret
  exact ⟨Chk.no (by decide) HV.out, HB0.out⟩
def digD (u : Nat) : List Nat := if u < 10 then [48 + u] else digD (u / 10) ++ digD (u % 10)
termination_by u
decreasing_by all_goals omega
theorem digD_small {u : Nat} (h : u < 10) : digD u = [48 + u] := by rw [digD, if_pos h]
theorem digD_great {u : Nat} (h : ¬ u < 10) : digD u = digD (u / 10) ++ digD (u % 10) := by rw [digD, if_neg h]
theorem digD_len : ∀ (n u : Nat), u < 10 ^ (n + 1) → (digD u).length ≤ n + 1 := by
 intro n
 induction n with
 | zero =>
  intro u h
  rw [digD_small (by simpa using h)]
  simp
 | succ n ih =>
  intro u h
  by_cases h1 : u < 10
  ·rw [digD_small h1]; simp
  ·rw [digD_great h1, List.length_append, digD_small (u := u % 10) (by omega)]
   have := ih (u / 10) (by rw [Nat.pow_succ] at h; omega)
   simp
   omega
theorem digD_bytes : ∀ (u : Nat), ∀ b ∈ digD u, 48 ≤ b ∧ b < 58 := by
 intro u
 induction u using Nat.strongRecOn with
 | _ u ih =>
  intro b hb
  by_cases h1 : u < 10
  ·rw [digD_small h1, List.mem_singleton] at hb
   omega
  ·rw [digD_great h1] at hb
   rcases List.mem_append.1 hb with hb | hb
   ·exact ih (u / 10) (by omega) b hb
   ·exact ih (u % 10) (by omega) b hb
theorem digD_len20 {u : Nat} (h : u < 18446744073709551616) : (digD u).length ≤ 20 := digD_len 19 u (by omega)
def numL (n : Nat) : List Nat := digD n ++ [32]
def nstL (s : List Nat) : List Nat := digD s.length ++ [58] ++ s ++ [44]
theorem digits_any : ∀ (u : Nat), u < 18446744073709551616 → ∀ w : World, Calls Tryz.prog 289 #[.int .u64 (u : Int)] w fun e w' => e = .returned (.string (strB (digD u))) ∧ w = w' := by
 intro u
 induction u using Nat.strongRecOn with
 | _ u ih =>
  intro hu w
  by_cases h : u < 10
  ·have hI : (u : Int) < 10 := by omega
   have hx : (⟨#[48, 49, 50, 51, 52, 53, 54, 55, 56, 57]⟩ : ByteArray).extract u (u + 1) = strB (digD u) := by
    rw [digD_small h]
    have : u = 0 ∨ u = 1 ∨ u = 2 ∨ u = 3 ∨ u = 4 ∨ u = 5 ∨ u = 6 ∨ u = 7 ∨ u = 8 ∨ u = 9 := by omega
    rcases this with rfl | rfl | rfl | rfl | rfl | rfl | rfl | rfl | rfl | rfl <;> rfl
   have HX := Lib.hid hx
   clear hx ih
   go_enter Tryz.func289, Tryz.ntmps289
   go_wp2
   go_ret
   exact ⟨by rw [← HX.out]; rfl, rfl⟩
  ·have hI : ¬ (u : Int) < 10 := by omega
   obtain ⟨q, hq⟩ : ∃ q, u / 10 = q := ⟨_, rfl⟩
   obtain ⟨r, hr⟩ : ∃ r, u % 10 = r := ⟨_, rfl⟩
   have HD := Lib.hid (digD_great h)
   rw [hq, hr] at HD
   have H1 := Lib.hid (ih q (by omega) (by omega))
   have H2 := Lib.hid (ih r (by omega) (by omega))
   have hqI : Int.tdiv (u : Int) 10 = q := by rw [Int.tdiv_eq_ediv_of_nonneg (by omega)]; omega
   have hrI : Int.tmod (u : Int) 10 = r := by rw [Int.tmod_eq_emod_of_nonneg (by omega)]; omega
   have hqE : (u : Int) / 10 = q := by omega
   have hrE : (u : Int) % 10 = r := by omega
   have hs1 : (strB (digD q)).size ≤ 20 := by rw [strB_size]; exact digD_len20 (by omega)
   have hs2 : (strB (digD r)).size ≤ 20 := by rw [strB_size]; exact digD_len20 (by omega)
   have Hc := Lib.hid (strB_cat (digD q) (digD r))
   clear ih hq hr
   generalize strB (digD q) = Q at *
   generalize strB (digD r) = T at *
   have hcc : ¬ 9223372036854775807 < Q.size + T.size := by omega
   go_enter Tryz.func289, Tryz.ntmps289
   go_wp2_with fail
   refine (H1.out _).mono ?_
   rintro e1 w1 ⟨rfl, rfl⟩
   go_wp2_with fail
   refine (H2.out _).mono ?_
   rintro e2 w2 ⟨rfl, rfl⟩
   go_wp2_with fail
   go_ret
   exact ⟨by rw [HD.out, ← Hc.out] <;> rfl, rfl⟩
theorem dec_any (w : World) (n : Nat) (hn : n < 9223372036854775808) : Calls Tryz.prog 199 #[.int .i64 (n : Int)] w fun e w' => e = .returned (.string (strB (digD n))) ∧ w = w' := by
 have hI : ¬ (n : Int) < 0 := by omega
 have hw : IntKind.u64.wrap (n : Int) = n := IntWalk.u64_in _ (by omega)
 have H1 := Lib.hid (digits_any n (by omega))
 go_enter Tryz.func199, Tryz.ntmps199
 go_wp2_with fail
 refine (H1.out _).mono ?_
 rintro e1 w1 ⟨rfl, rfl⟩
 go_wp2_with fail
 go_ret
 exact ⟨rfl, rfl⟩
theorem number_any (w : World) (n : Nat) (hn : n < 9223372036854775808) : Calls Tryz.prog 130 #[.int .i64 (n : Int)] w fun e w' => e = .returned (.string (strB (numL n))) ∧ w = w' := by
 have H1 := Lib.hid (fun W => dec_any W n hn)
 have hs1 : (strB (digD n)).size ≤ 20 := by rw [strB_size]; exact digD_len20 (by omega)
 have Hc : Hid (strB (digD n) ++ ⟨#[32]⟩ = strB (numL n)) := Lib.hid (strB_cat (digD n) [32])
 generalize strB (digD n) = Q at *
 have hcc : ¬ 9223372036854775807 < Q.size + 1 := by omega
 go_enter Tryz.func130, Tryz.ntmps130
 go_wp2_with fail
 refine (H1.out _).mono ?_
 rintro e1 w1 ⟨rfl, rfl⟩
 go_wp2_with fail
 go_ret
 exact ⟨by rw [← Hc.out] <;> rfl, rfl⟩
theorem nstring_any (w : World) (s : ByteArray) (hs : s.size ≤ 100000000) : Calls Tryz.prog 126 #[.string s] w fun e w' => e = .returned (.string (strB (nstL (bs s)))) ∧ w = w' := by
 have H1 := Lib.hid (fun W => dec_any W s.size (by omega))
 have hs1 : (strB (digD s.size)).size ≤ 20 := by rw [strB_size]; exact digD_len20 (by omega)
 have hc : strB (digD s.size) ++ ⟨#[58]⟩ ++ s ++ ⟨#[44]⟩ = strB (nstL (bs s)) := by
  have e1 := strB_cat (digD s.size) [58]
  have e2 := strB_cat (digD s.size ++ [58]) (bs s)
  have e3 := strB_cat (digD s.size ++ [58] ++ bs s) [44]
  rw [strB_bs] at e2
  rw [← e1] at e2
  rw [← e2] at e3
  rw [nstL, bs_len]
  exact e3
 have Hc := Lib.hid hc
 clear hc
 generalize strB (digD s.size) = Q at *
 have hcc : ¬ 9223372036854775807 < Q.size + 1 := by omega
 have hcd : ¬ 9223372036854775807 < Q.size + 1 + s.size := by omega
 have hce : ¬ 9223372036854775807 < Q.size + 1 + s.size + 1 := by omega
 go_enter Tryz.func126, Tryz.ntmps126
 go_wp2_with fail
 refine (H1.out _).mono ?_
 rintro e1 w1 ⟨rfl, rfl⟩
 go_wp2_with fail
 go_ret
 exact ⟨by rw [← Hc.out] <;> rfl, rfl⟩
theorem nstL_len (s : ByteArray) (h : s.size < 18446744073709551616) : (strB (nstL (bs s))).size ≤ s.size + 22 := by
 rw [strB_size, nstL, List.length_append, List.length_append, List.length_append, bs_len]
 have := digD_len20 h
 simp
 omega
theorem numL_len (n : Nat) (h : n < 18446744073709551616) : (strB (numL n)).size ≤ 21 := by
 rw [strB_size, numL, List.length_append]
 have := digD_len20 h
 simp
 omega
def atrL (l : List Atr) : List Nat := l.flatMap fun a => nstL (bs a.k) ++ nstL (bs a.v)
def headL (e : Ent) : List Nat := nstL (bs (nameK e.k)) ++ nstL (bs e.path) ++ numL e.attrs.length ++ atrL e.attrs ++ nstL (bs e.tgt)
theorem atrL_take {l : List Atr} {i : Nat} {a : Atr} (h : l[i]? = some a) : atrL (l.take (i + 1)) = atrL (l.take i) ++ (nstL (bs a.k) ++ nstL (bs a.v)) := by
 unfold atrL
 rw [List.take_add_one, h, Option.toList_some, List.flatMap_append]
 simp
theorem atrL_len {l : List Atr} {m : Nat} (hm : m < 1000000000) (h : ∀ a ∈ l, a.k.size ≤ m ∧ a.v.size ≤ m) : (atrL l).length ≤ l.length * (2 * m + 44) := by
 induction l with
 | nil => simp [atrL]
 | cons a r ih =>
  have h1 := ih fun x hx => h x (List.mem_cons_of_mem _ hx)
  obtain ⟨h2, h3⟩ := h a List.mem_cons_self
  have h4 := nstL_len a.k (by omega)
  have h5 := nstL_len a.v (by omega)
  rw [strB_size] at h4 h5
  have e : atrL (a :: r) = (nstL (bs a.k) ++ nstL (bs a.v)) ++ atrL r := by unfold atrL; rw [List.flatMap_cons]
  rw [e, List.length_append, List.length_append, List.length_cons, Nat.add_mul, Nat.one_mul]
  omega
theorem head_any (w : World) (e : Ent) (va vx : Value) (hva : SeqAt atrS w va e.attrs) (hp : e.path.size ≤ 1000000) (ht : e.tgt.size ≤ 1000000) (ha : ∀ a ∈ e.attrs, a.k.size ≤ 1000000 ∧ a.v.size ≤ 1000000) (hl : e.attrs.length ≤ 1000) :
  Calls Tryz.prog 204 #[entV e va vx] w fun r w' => r = .returned (.string (strB (headL e))) ∧ Below w.heap.size w w' := by
 have HSt : Hid (∀ (W : World) (s : ByteArray), s.size ≤ 1000000 → Calls Tryz.prog 126 #[.string s] W fun e w' => e = .returned (.string (strB (nstL (bs s)))) ∧ w' = W) := Lib.hid (fun W s hs => (nstring_any W s (by omega)).mono fun _ _ ⟨h1, h2⟩ => ⟨h1, h2.symm⟩)
 have HNu : Hid (∀ (W : World) (n : Nat), n < 9223372036854775808 → Calls Tryz.prog 130 #[.int .i64 (n : Int)] W fun e w' => e = .returned (.string (strB (numL n))) ∧ w' = W) := Lib.hid (fun W n hn => (number_any W n hn).mono fun _ _ ⟨h1, h2⟩ => ⟨h1, h2.symm⟩)
 obtain ⟨k, path, attrs, t, size, dig, exts⟩ := e
 obtain ⟨R, hR⟩ : ∃ R, headL ⟨k, path, attrs, t, size, dig, exts⟩ = R := ⟨_, rfl⟩
 rw [hR]
 rw [headL] at hR
 dsimp only at hva hp ht ha hl hR
 obtain ⟨N, hN⟩ : ∃ N, nameK k = N := ⟨_, rfl⟩
 have hNs : N.size ≤ 7 := by
  rw [← hN]
  by_cases h : 1 ≤ k ∧ k ≤ 6
  ·exact (nameK_some h).2
  ·rw [nameK_none h]; decide
 have HNm : Hid (∀ W : World, Calls Tryz.prog 205 #[.int .i64 k] W fun e w' => e = .returned (.string N) ∧ w' = W) := Lib.hid (fun W => by
  rw [← hN]
  exact (name_any W k).mono fun _ _ ⟨h1, h2⟩ => ⟨h1, h2.symm⟩)
 rw [hN] at hR
 have HR := Lib.hid hR
 have Hva := Lib.hid hva
 obtain ⟨Aa, ca, rfl, ha1, ha2⟩ := hva.slice
 have Hal : Hid (∀ i, (strB (nstL (bs N) ++ nstL (bs path) ++ numL attrs.length ++ atrL (attrs.take i))).size ≤ 3000000000) := Lib.hid (fun i => by
  have h1 := atrL_len (l := attrs.take i) (m := 1000000) (by omega) (fun a h => ha a (List.mem_of_mem_take h))
  have h2 := nstL_len N (by omega)
  have h3 := nstL_len path (by omega)
  have h4 := numL_len attrs.length (by omega)
  have h5 := Nat.mul_le_mul (show (attrs.take i).length ≤ 1000 by rw [List.length_take]; omega) (Nat.le_refl (2 * 1000000 + 44))
  rw [strB_size] at h2 h3 h4 ⊢
  rw [List.length_append, List.length_append, List.length_append]
  omega)
 have Ha := Lib.hid ha
 clear hva ha hN hR
 rw [entV]
 dsimp only
 have hK := Blk.new w 48 [.int .i64 k, .string path, .slice Aa attrs.length ca, .string t, .int .i64 size, .string dig, vx]
 change Blk (w.alloc (.cells #[.int .i64 k, .string path, .slice Aa attrs.length ca, .string t, .int .i64 size, .string dig, vx] 48)) _ _ _ at hK
 have HB0 := Lib.hid ((Below.refl w.heap.size w).alloc (Nat.le_refl _) (.cells #[.int .i64 k, .string path, .slice Aa attrs.length ca, .string t, .int .i64 size, .string dig, vx] 48))
 have hq1 := nstL_len N (by omega)
 have hq2 := nstL_len path (by omega)
 have hq3 := numL_len attrs.length (by omega)
 have hc1 : ¬ 9223372036854775807 < (strB (nstL (bs N))).size + (strB (nstL (bs path))).size := by omega
 have hc2 : ¬ 9223372036854775807 < (strB (nstL (bs N))).size + (strB (nstL (bs path))).size + (strB (numL attrs.length)).size := by omega
 have HE0 : Hid (strB (nstL (bs N)) ++ strB (nstL (bs path)) ++ strB (numL attrs.length) = strB (nstL (bs N) ++ nstL (bs path) ++ numL attrs.length ++ atrL (attrs.take 0))) := Lib.hid (by
  rw [strB_cat, strB_cat, List.take_zero, show atrL [] = [] from rfl, List.append_nil])
 go_enter Tryz.func204, Tryz.ntmps204
 go_upto_region 1 with fail
 generalize w.alloc (.cells #[.int .i64 k, .string path, .slice Aa attrs.length ca, .string t, .int .i64 size, .string dig, vx] 48) = wb at *
 have HK := Lib.hid hK
 have c0 := hK.cell (i := 0) rfl
 have c1 := hK.cell (i := 1) rfl
 have c2 := hK.cell (i := 2) rfl
 clear hK
 go_quiet (first | (go_at_call 205; refine Calls.quiet_of_same (HNm.out _)) | (go_at_call 126; refine Calls.quiet_of_same (HSt.out _ _ (by omega))) | (go_at_call 130; refine Calls.quiet_of_same (HNu.out _ _ (by omega))))
 have HBd : Hid (Below wb.heap.size wb (wb.drewN nq)) := Lib.hid (zBd (Below.refl _ _) nq)
 generalize wb.drewN nq = wd at *
 have HKd := Lib.hid (HK.out.kept HBd.out)
 have HBb := Lib.hid (HB0.out.trans (HBd.out.mono HB0.out.size))
 clear c0 c1 c2 HK HB0 HBd hc1 hc2 hq1 hq2 hq3
 go_wp2
 go_loopw [3, 4] (fun y x wr => ∃ i : Nat, i ≤ attrs.length ∧ x = .int .i64 (i : Int) ∧ y = .string (strB (nstL (bs N) ++ nstL (bs path) ++ numL attrs.length ++ atrL (attrs.take i))) ∧ Below wd.heap.size wd wr) (fun _ x _ => attrs.length - (intOf x).toNat)
 case atStart => exact ⟨0, by omega, rfl, by rw [← HE0.out], Below.refl _ _⟩
 case round =>
  obtain ⟨i, hi, rfl, rfl, hB⟩ := hrel
  have HB := Lib.hid hB
  have HKr := Lib.hid (HKd.out.kept hB)
  clear hB
  have hys := Hal.out i
  by_cases h : i < attrs.length
  ·have hiI : (i : Int) < attrs.length := by omega
   obtain ⟨a, ha⟩ : ∃ a, attrs[i]? = some a := ⟨_, List.getElem?_eq_getElem h⟩
   obtain ⟨hak, hav⟩ := Ha.out a (List.mem_of_getElem? ha)
   have HN2 : Hid (strB (nstL (bs N) ++ nstL (bs path) ++ numL attrs.length ++ atrL (attrs.take i)) ++ strB (nstL (bs a.k)) ++ strB (nstL (bs a.v)) = strB (nstL (bs N) ++ nstL (bs path) ++ numL attrs.length ++ atrL (attrs.take (i + 1)))) := Lib.hid (by
    rw [atrL_take ha, strB_cat, strB_cat]
    simp only [List.append_assoc])
   obtain ⟨_, _, e9, _, _, h4⟩ := Hva.out.below (HBb.out.trans (HB.out.mono HBb.out.size))
   cases e9
   obtain ⟨b, o, cs, rfl, rfl, hc⟩ := h4 i a ha
   have c0 : wr.cell? ⟨b, o + i * 2, none⟩ = some (.string a.k) := hc 0 _ rfl
   have c1 : wr.cell? ⟨b, o + i * 2 + 1, none⟩ = some (.string a.v) := hc 1 _ rfl
   have c2 := HKr.out.cell (i := 2) rfl
   obtain ⟨ak, av⟩ := a
   dsimp only at hak hav HN2 c0 c1
   generalize strB (nstL (bs N) ++ nstL (bs path) ++ numL attrs.length ++ atrL (attrs.take i)) = Y at *
   have h5 := nstL_len ak (by omega)
   have h6 := nstL_len av (by omega)
   have hc1 : ¬ 9223372036854775807 < Y.size + (strB (nstL (bs ak))).size := by omega
   have hc2 : ¬ 9223372036854775807 < Y.size + (strB (nstL (bs ak))).size + (strB (nstL (bs av))).size := by omega
   clear hc h4 ha h5 h6
   go_upto_region 5 with fail
   go_quiet (first | (go_at_call 126; refine Calls.quiet_of_same (HSt.out _ _ (by omega))))
   go_wp2
   go_roundw
   case rel => exact ⟨i + 1, by omega, by go_num, by rw [HN2.out], zBd HB.out _⟩
   case measure => simp [intOf]; omega
  ·obtain rfl : i = attrs.length := by omega
   have hiI : ¬ ((attrs.length : Nat) : Int) < (attrs.length : Int) := by omega
   have c3 := HKr.out.cell (i := 3) rfl
   have HN2 : Hid (strB (nstL (bs N) ++ nstL (bs path) ++ numL attrs.length ++ atrL (attrs.take attrs.length)) ++ strB (nstL (bs t)) = strB R) := Lib.hid (by
    rw [List.take_length, strB_cat, ← HR.out])
   have h5 := nstL_len t (by omega)
   have c2 := HKr.out.cell (i := 2) rfl
   generalize strB (nstL (bs N) ++ nstL (bs path) ++ numL attrs.length ++ atrL (attrs.take attrs.length)) = Y at *
   have hc1 : ¬ 9223372036854775807 < Y.size + (strB (nstL (bs t))).size := by omega
   clear h5
   go_wp2_with fail
   refine (HSt.out _ t ht).mono ?_
   rintro e6 w6 ⟨rfl, rfl⟩
   go_wp2_with fail
   go_ret
   exact ⟨by rw [← HN2.out] <;> rfl, HBb.out.trans (HB.out.mono HBb.out.size)⟩
end
end Go.Proofs.YtbccghbngaiceaaGreatDoor
