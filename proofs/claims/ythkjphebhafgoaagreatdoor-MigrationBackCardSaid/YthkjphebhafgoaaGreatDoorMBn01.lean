/-
  Joined: CrcA VoA Str1.
-/
import Derived.Test.YthkjphebhafgoaaGreatDoorMBn00
import Derived.Laws.CopyOwn
set_option linter.all false
set_option maxRecDepth 100000
set_option maxHeartbeats 64000000
namespace Go.Proofs.YthkjphebhafgoaaGreatDoor
section
open Go.RowKit
def bs (s : ByteArray) : List Nat := s.data.toList.map (·.toNat)
theorem bs_len (s : ByteArray) : (bs s).length = s.size := by unfold bs; rw [List.length_map]; rfl
theorem bs_lt (s : ByteArray) : ∀ b ∈ bs s, b < 256 := by
 intro b hb
 obtain ⟨x, _, rfl⟩ := List.mem_map.1 hb
 exact UInt8.toNat_lt x
def strB (l : List Nat) : ByteArray := ⟨(l.map UInt8.ofNat).toArray⟩
theorem ret_bool' {a b : Bool} (h : a = b) : Ending.returned (.bool a) = .returned (.bool b) := by rw [h]
theorem bs_strB {l : List Nat} (h : ∀ b ∈ l, b < 256) : bs (strB l) = l := by
 unfold bs strB
 rw [List.toList_toArray, List.map_map]
 conv => rhs; rw [← List.map_id l]
 refine List.map_congr_left fun b hb => ?_
 simp only [Function.comp_apply, id_eq]
 exact Nat.mod_eq_of_lt (h b hb)
theorem strB_bs (s : ByteArray) : strB (bs s) = s := by
 unfold bs strB
 rw [List.map_map]
 have : (s.data.toList.map ((fun x => UInt8.ofNat x) ∘ fun x => x.toNat)) = s.data.toList := by
  conv => rhs; rw [← List.map_id s.data.toList]
  refine List.map_congr_left fun b _ => ?_
  simp
 have e : (s.data.toList.map (UInt8.ofNat ∘ fun x => x.toNat)) = s.data.toList := this
 rw [e]
theorem bs_extract (s : ByteArray) (i j : Nat) : bs (s.extract i j) = ((bs s).take j).drop i := by
 unfold bs
 rw [ByteArray.data_extract, Array.toList_extract, List.extract_eq_take_drop, ← List.map_take, ← List.map_drop, List.drop_take]
theorem strB_size (l : List Nat) : (strB l).size = l.length := by
 unfold strB
 show (List.toArray _).size = _
 simp
theorem bs_get (s : ByteArray) (i : Nat) (h : i < s.size) : (bs s)[i]? = some (s[i]'h).toNat := by
 have hl : i < s.data.toList.length := h
 unfold bs
 rw [List.getElem?_map, List.getElem?_eq_getElem hl]
 rfl
abbrev u8V (x : Nat) : Value := .int .u8 (x : Int)
abbrev BytesAt (w : World) (v : Value) (xs : List Nat) : Prop := SlAt (PlainR u8V) w v xs
theorem SlAt.nil {α : Type} {R : World → Value → α → Prop} (w : World) : SlAt R w (.slice none 0 0) [] :=
 ⟨none, 0, rfl, Nat.le_refl _, by omega, fun i x h => by cases h⟩
theorem SlAt.cell {α : Type} {f : α → Value} {w : World} {A : Option Addr} {n c : Nat} {xs : List α} (h : SlAt (PlainR f) w (.slice A n c) xs) {i : Nat} {x : α} (hi : xs[i]? = some x) : ∃ b o, A = some ⟨b, o, none⟩ ∧ w.cell? ⟨b, o + i, none⟩ = some (f x) := by
 obtain ⟨A', c', e, _, _, h3⟩ := h
 cases e
 obtain ⟨b, o, u, rfl, hc, rfl⟩ := h3 i x hi
 exact ⟨b, o, rfl, hc⟩
def Blk (w : World) (g : Nat) (t : TypeId) (us : List Value) : Prop := w.heap[g]? = some (.cells us.toArray t (0, 0))
section
variable {w w' : World} {g : Nat} {t : TypeId} {us : List Value}
theorem Blk.lt (h : Blk w g t us) : g < w.heap.size := (Array.getElem?_eq_some_iff.1 h).1
theorem Blk.cell (h : Blk w g t us) {i : Nat} {u : Value} (hi : us[i]? = some u) : w.cell? ⟨g, i, none⟩ = some u := by
 unfold Blk at h
 simp only [World.cell?, h]
 simpa using hi
theorem Blk.frozen (h : Blk w g t us) (i : Nat) : w.frozen? ⟨g, i, none⟩ = false := by
 unfold Blk at h
 simp [World.frozen?, h]
theorem Blk.new (w : World) (t : TypeId) (us : List Value) : Blk (w.alloc (.cells us.toArray t)) w.heap.size t us := by
 show (w.heap.push _)[w.heap.size]? = _
 simp
theorem Blk.of_heap (h : w'.heap[g]? = w.heap[g]?) (hb : Blk w g t us) : Blk w' g t us := h.trans hb
theorem Blk.kept (h : Blk w g t us) (hb : Below w.heap.size w w') : Blk w' g t us := (hb.block g h.lt).trans h
theorem Blk.alloc (h : Blk w g t us) (o : Obj) : Blk (w.alloc o) g t us := h.kept ((Below.refl _ _).alloc (Nat.le_refl _) _)
theorem Blk.set (h : Blk w g t us) (i : Nat) (u : Value) : Blk (w.setCell ⟨g, i, none⟩ u) g t (us.set i u) := by
 unfold Blk at h ⊢
 simp [World.setCell, Array.getElem?_modify, h]
theorem Blk.far (h : Blk w g t us) {p : Addr} (hp : g ≠ p.block) (u : Value) : Blk (w.setCell p u) g t us := (Below.heap_setCell w p u g hp).trans h
end
def arrB (xs : List Nat) : Array Value := (xs.map u8V).toArray
theorem Tryz.infoU8 : (Tryz.prog.info? 5).map (fun i => (i.zero, i.size, i.bytes)) = some (some (.int .u8 0), 1, 1) := by kernel_rfl
theorem make_u8 (n c : Nat) (hnc : n ≤ c) (hc : c ≤ 1000000) (w : World) : (Instr.makeSlice 104 (.int .i64 (n : Int)) (.int .i64 (c : Int))).run Tryz.prog w = .ok (.slice (some ⟨w.heap.size, 0, none⟩) n c) (w.alloc (.cells (arrB (List.replicate c 0)) 5)) := by
 obtain ⟨i0, hi, hz0, hz1, hz2⟩ := info_parts Tryz.infoU8
 have hr := run_make (P := Tryz.prog) w 104 5 i0 (.int .u8 0) Tryz.underlying104 hi hz0 .i64 .i64 n c (by omega) (by omega) (by rw [hz2]; omega) (by omega)
 rw [hr, hz1]
 have e : madeCells (Value.int .u8 0).cells ((c : Int).toNat * 1) = arrB (List.replicate c 0) := by
  show madeCells #[Value.int .u8 0] _ = _
  unfold madeCells arrB
  rw [Nat.mul_one, Int.toNat_natCast, List.map_replicate]
  refine Array.ext (by simp) fun i h1 h2 => ?_
  simp [Nat.mod_one]
 rw [e]
 rfl
end
section
open Go.RowKit
theorem BytesAt.of_own {w : World} {base n : Nat} {v : Value} {xs : List Nat} (h : w.ownsRow base 5 1 v n (xs.map u8V)) : BytesAt w v xs := by
 obtain ⟨hl, h⟩ := h
 have hn : xs.length = n := by simpa using hl
 rcases h with ⟨rfl, h0⟩ | ⟨g, cap, cur, rfl, hb, hh, hnc, hm, hsz, htk⟩
 ·have : xs = [] := List.eq_nil_of_length_eq_zero (by omega)
  subst this
  exact SlAt.nil w
 ·refine ⟨some ⟨g, 0, none⟩, cap, by rw [hn], by omega, hm, fun i x hx => ⟨g, 0, u8V x, rfl, ?_, rfl⟩⟩
  have h2 : (xs.map u8V)[i]? = some (u8V x) := by rw [List.getElem?_map, hx]; rfl
  rw [← htk, List.getElem?_take] at h2
  split at h2
  ·simp only [World.cell?, hh, Nat.zero_add]
   simpa using h2
  ·cases h2
theorem BytesAt.cell {w : World} {A : Option Addr} {n c : Nat} {xs : List Nat} (h : BytesAt w (.slice A n c) xs) {i x : Nat} (hi : xs[i]? = some x) : ∃ b o, A = some ⟨b, o, none⟩ ∧ w.cell? ⟨b, o + i, none⟩ = some (.int .u8 (x : Int)) := SlAt.cell h hi
theorem run_toStr {W : World} {A : Option Addr} {n c : Nat} {p : List Nat} (h : BytesAt W (.slice A n c) p) (hn : n = p.length) : (convert 104 9 (.slice A n c)).run Tryz.prog W = .ok (.string (strB p)) W := by
 subst hn
 cases A with
 | none =>
  have hp : p = [] := by
   cases p with
   | nil => rfl
   | cons x r => obtain ⟨_, _, e, _⟩ := BytesAt.cell h (i := 0) rfl; cases e
  subst hp
  exact run_convert_bytes_nil (P := Tryz.prog) W 104 5 Tryz.underlying104 Tryz.underlying5 _ _ 9 Tryz.underlying9
 | some ad =>
  obtain ⟨b, o, f⟩ := ad
  by_cases hp : p = []
  ·subst hp
   have hl : (loadCells ⟨b, o, f⟩ 0).run Tryz.prog W = .ok #[] W := by simpa using run_loadCells_list (P := Tryz.prog) W ⟨b, o, f⟩ [] (by simp)
   show (convert 104 9 (.slice (some ⟨b, o, f⟩) 0 c)).run Tryz.prog W = _
   rw [run_convert_bytes_string W 104 9 5 _ 0 c Tryz.underlying104 Tryz.underlying5 Tryz.underlying9, run_bytesToString W _ 0 c [] hl]
   rfl
  ·obtain ⟨x, hx⟩ : ∃ x, p[0]? = some x := by
    cases p with
    | nil => exact absurd rfl hp
    | cons x r => exact ⟨x, rfl⟩
   obtain ⟨b', o', e, _⟩ := BytesAt.cell h hx
   cases e
   have hr := run_convert_bytes_arg (P := Tryz.prog) W 104 5 Tryz.underlying104 Tryz.underlying5 b o p.length c (p.map fun x : Nat => (x : Int)) (by simp) (fun i hi => by
    obtain ⟨b1, o1, e1, hc⟩ := BytesAt.cell h (List.getElem?_eq_getElem hi)
    cases e1
    rw [hc]
    simp [List.getD, List.getElem?_eq_getElem hi]) 9 Tryz.underlying9
   have e : strOfNums (p.map fun x : Nat => (x : Int)) = strB p := by
    unfold strOfNums strB
    rw [List.map_map]
    rfl
   rw [hr, e]
theorem ownV_below {w w' : World} {B n size : Nat} {t : TypeId} {v : Value} {xs : List Value} (h : w.ownsRow B t size v n xs) (hb : Below w.heap.size w w') : w'.ownsRow B t size v n xs :=
 ⟨h.1, h.2.imp id fun ⟨g, cap, cur, e, hB, hh, r⟩ => ⟨g, cap, cur, e, hB, (hb.block g (Array.getElem?_eq_some_iff.1 hh).1).trans hh, r⟩⟩
theorem ownV_ge {w : World} {B n size : Nat} {t : TypeId} {v : Value} {xs : List Value} (h : w.ownsRow B t size v n xs) : ∀ k, v.ownBlock = some k → B ≤ k := fun k hk => (h.lt k hk).1
theorem ownV_slice {W : World} {B n size : Nat} {t : TypeId} {v : Value} {xs : List Value} (h : W.ownsRow B t size v n xs) : ∃ A c, v = .slice A n c := by
 rcases h.2 with ⟨e, rfl⟩ | ⟨g, cap, _, e, _⟩
 ·exact ⟨_, _, e⟩
 ·exact ⟨_, _, e⟩
theorem ownV_new (W : World) (t : TypeId) (n : Nat) : (W.alloc (.cells #[] t)).ownsRow W.heap.size t n (.slice (some ⟨W.heap.size, 0, none⟩) 0 0) 0 [] := by
 refine ⟨by simp, .inr ⟨W.heap.size, 0, #[], rfl, Nat.le_refl _, ?_, Nat.le_refl _, by decide, by simp, by simp⟩⟩
 show (W.heap.push (Obj.cells #[] t))[W.heap.size]? = _
 exact Array.getElem?_push_size
theorem toListV {s : ByteArray} {l : List UInt8} : s.toList = l ↔ s = ⟨l.toArray⟩ := by
 rw [ByteArray.toList_eq]
 constructor
 ·intro h
  apply ByteArray.ext
  rw [← h]
 ·rintro rfl
  rfl
theorem isEmptyV {s : ByteArray} (h : s.size ≠ 0) : s.toList.isEmpty = false := by
 rw [ByteArray.toList_eq]
 cases e : s.data.toList with
 | nil =>
  have : s.data.toList.length = 0 := by rw [e]; rfl
  rw [Array.length_toList] at this
  exact absurd this h
 | cons => rfl
theorem beqV_true {a b : ByteArray} (h : a = b) : (a == b) = true := (Go.MapKept.bytes_beq a b).2 h
theorem beqV_false {a b : ByteArray} (h : a ≠ b) : (a == b) = false := by
 cases e : (a == b) with
 | true => exact absurd ((Go.MapKept.bytes_beq a b).1 e) h
 | false => rfl
theorem bneV_true {a b : ByteArray} (h : a ≠ b) : (a != b) = true := by rw [bne, beqV_false h]; rfl
theorem bneV_false {a b : ByteArray} (h : a = b) : (a != b) = false := by rw [bne, beqV_true h]; rfl
theorem ownV_nil (W : World) (B size : Nat) (t : TypeId) : W.ownsRow B t size (.slice none 0 0) 0 [] := ⟨by simp, .inl ⟨rfl, rfl⟩⟩
structure Shape (α : Type) where
 n : Nat
 R : World → List Value → α → Prop
 len : ∀ {w cs x}, R w cs x → cs.length = n
 one : ∀ {w cs x}, R w cs x → ∀ u ∈ cs, u.oneCell' = true
 keep : ∀ {w w' cs x}, R w cs x → Below w.heap.size w w' → R w' cs x
def SeqAt {α : Type} (ρ : Shape α) (W : World) (v : Value) (xs : List α) : Prop :=
 ∃ (A : Option Addr) (c : Nat), v = .slice A xs.length c ∧ xs.length ≤ c ∧ c ≤ 9223372036854775807 ∧
  ∀ i x, xs[i]? = some x → ∃ b o cs, A = some ⟨b, o, none⟩ ∧ ρ.R W cs x ∧ ∀ j u, cs[j]? = some u → W.cell? ⟨b, o + i * ρ.n + j, none⟩ = some u
section
variable {α : Type} {ρ : Shape α} {w w' W : World} {v : Value} {xs : List α}
theorem SeqAt.below (h : SeqAt ρ w v xs) (hb : Below w.heap.size w w') : SeqAt ρ w' v xs := by
 obtain ⟨A, c, e, h1, h2, h3⟩ := h
 refine ⟨A, c, e, h1, h2, fun i x hx => ?_⟩
 obtain ⟨b, o, cs, e1, hr, h4⟩ := h3 i x hx
 exact ⟨b, o, cs, e1, ρ.keep hr hb, fun j u hu => cell_below hb (h4 j u hu)⟩
theorem SeqAt.nil (w : World) : SeqAt ρ w (.slice none 0 0) [] := ⟨none, 0, rfl, Nat.le_refl _, by decide, fun i x h => by simp at h⟩
theorem SeqAt.one (h : SeqAt ρ w v xs) : v.oneCell' = true := by
 obtain ⟨A, c, rfl, _⟩ := h
 rfl
theorem SeqAt.slice (h : SeqAt ρ w v xs) : ∃ A c, v = .slice A xs.length c ∧ xs.length ≤ c ∧ c ≤ 9223372036854775807 := by
 obtain ⟨A, c, e, h1, h2, _⟩ := h
 exact ⟨A, c, e, h1, h2⟩
inductive Both {β γ : Type} (r : β → γ → Prop) : List β → List γ → Prop
 | nil : Both r [] []
 | cons {x y xs ys} : r x y → Both r xs ys → Both r (x :: xs) (y :: ys)
theorem Both.len {β γ : Type} {r : β → γ → Prop} {l : List β} {m : List γ} (h : Both r l m) : l.length = m.length := by
 induction h with
 | nil => rfl
 | cons _ _ ih => rw [List.length_cons, List.length_cons, ih]
theorem Both.app {β γ : Type} {r : β → γ → Prop} {l l' : List β} {m m' : List γ} (h : Both r l m) (h' : Both r l' m') : Both r (l ++ l') (m ++ m') := by
 induction h with
 | nil => exact h'
 | cons h1 _ ih => exact .cons h1 ih
theorem Both.at {β γ : Type} {r : β → γ → Prop} {l : List β} {m : List γ} (h : Both r l m) : ∀ {i : Nat} {y : γ}, m[i]? = some y → ∃ x, l[i]? = some x ∧ r x y := by
 induction h with
 | nil => intro i y hy; simp at hy
 | @cons x z l m h1 _ ih =>
  intro i y hy
  cases i with
  | zero =>
   obtain rfl : z = y := by simpa using hy
   exact ⟨x, rfl, h1⟩
  | succ i => exact ih (i := i) (by simpa using hy)
theorem flat_get {n : Nat} : ∀ {css : List (List Value)} {i : Nat} {cs : List Value}, (∀ c ∈ css, c.length = n) → css[i]? = some cs → ∀ j, j < n → css.flatten[i * n + j]? = cs[j]?
 | [], _, _, _, h, _, _ => by simp at h
 | c :: r, 0, cs, hl, h, j, hj => by
  obtain rfl : c = cs := by simpa using h
  rw [List.flatten_cons, List.getElem?_append_left (by rw [hl c List.mem_cons_self]; omega)]
  simp
 | c :: r, i + 1, cs, hl, h, j, hj => by
  have hc := hl c List.mem_cons_self
  rw [List.flatten_cons, List.getElem?_append_right (by rw [hc, Nat.add_mul]; omega), show (i + 1) * n + j - c.length = i * n + j by rw [hc, Nat.add_mul]; omega]
  exact flat_get (fun x hx => hl x (List.mem_cons_of_mem _ hx)) (by simpa using h) j hj
theorem flat_len {n : Nat} : ∀ {css : List (List Value)}, (∀ c ∈ css, c.length = n) → css.flatten.length = css.length * n
 | [], _ => by simp
 | c :: r, hl => by
  rw [List.flatten_cons, List.length_append, flat_len fun x hx => hl x (List.mem_cons_of_mem _ hx), hl c List.mem_cons_self, List.length_cons, Nat.add_mul]
  omega
theorem Both.lens {w0 : World} {css : List (List Value)} (h : Both (ρ.R w0) css xs) : ∀ c ∈ css, c.length = ρ.n := by
 induction h with
 | nil => intro c hc; cases hc
 | cons h1 _ ih =>
  intro c hc
  rcases List.mem_cons.1 hc with rfl | hc
  ·exact ρ.len h1
  ·exact ih c hc
theorem Both.ones {w0 : World} {css : List (List Value)} (h : Both (ρ.R w0) css xs) : ∀ u ∈ css.flatten, u.oneCell' = true := by
 induction h with
 | nil => intro u hu; simp at hu
 | cons h1 _ ih =>
  intro u hu
  rw [List.flatten_cons] at hu
  rcases List.mem_append.1 hu with hu | hu
  ·exact ρ.one h1 u hu
  ·exact ih u hu
def OwnSeq (ρ : Shape α) (t : TypeId) (w0 W : World) (v : Value) (xs : List α) : Prop :=
 ∃ css, W.ownsRow w0.heap.size t ρ.n v xs.length css.flatten ∧ Both (ρ.R w0) css xs
theorem OwnSeq.nil {t : TypeId} {w0 : World} (W : World) : OwnSeq ρ t w0 W (.slice none 0 0) [] := ⟨[], ownV_nil _ _ _ _, .nil⟩
theorem OwnSeq.at {t : TypeId} {w0 : World} (h : OwnSeq ρ t w0 W v xs) (hb : Below w0.heap.size w0 W) : SeqAt ρ W v xs := by
 obtain ⟨css, h, hB⟩ := h
 rcases h.2 with ⟨rfl, h0⟩ | ⟨g, cap, cur, rfl, _, _, h1, h2, _⟩
 ·obtain rfl := List.length_eq_zero_iff.1 h0
  exact SeqAt.nil _
 ·refine ⟨_, _, rfl, h1, by unfold maxLen at h2; omega, fun i x hx => ?_⟩
  obtain ⟨cs, hcs, hr⟩ := hB.at hx
  refine ⟨g, 0, cs, rfl, ρ.keep hr hb, fun j u hu => ?_⟩
  have hj : j < ρ.n := by
   have := (List.getElem?_eq_some_iff.1 hu).1
   rwa [ρ.len hr] at this
  have hi : i < xs.length := (List.getElem?_eq_some_iff.1 hx).1
  have hm : (i + 1) * ρ.n ≤ xs.length * ρ.n := Nat.mul_le_mul (by omega) (Nat.le_refl _)
  rw [Nat.add_mul, Nat.one_mul] at hm
  rw [Nat.zero_add, h.cellAt (i * ρ.n + j) (by omega), flat_get hB.lens hcs j hj, hu]
theorem OwnSeq.below {t : TypeId} {w0 : World} (h : OwnSeq ρ t w0 W v xs) (hb : Below W.heap.size W w') : OwnSeq ρ t w0 w' v xs := by
 obtain ⟨css, h, hB⟩ := h
 exact ⟨css, ownV_below h hb, hB⟩
end
def strS : Shape ByteArray where
 n := 1
 R _ cs s := cs = [.string s]
 len h := by rw [h]; rfl
 one h u hu := by rw [h] at hu; rw [List.mem_singleton.1 hu]; rfl
 keep h _ := h
structure Atr where
 k : ByteArray
 v : ByteArray
def atrS : Shape Atr where
 n := 2
 R _ cs x := cs = [.string x.k, .string x.v]
 len h := by rw [h]; rfl
 one h u hu := by
  rw [h] at hu
  simp only [List.mem_cons, List.not_mem_nil, or_false] at hu
  rcases hu with rfl | rfl <;> rfl
 keep h _ := h
structure Ext where
 s : Int
 o : Int
 l : Int
def extS : Shape Ext where
 n := 3
 R _ cs x := cs = [.int .i64 x.s, .int .i64 x.o, .int .i64 x.l]
 len h := by rw [h]; rfl
 one h u hu := by
  rw [h] at hu
  simp only [List.mem_cons, List.not_mem_nil, or_false] at hu
  rcases hu with rfl | rfl | rfl <;> rfl
 keep h _ := h
structure Ent where
 k : Int
 path : ByteArray
 attrs : List Atr
 tgt : ByteArray
 size : Int
 dig : ByteArray
 exts : List Ext
def entS : Shape Ent where
 n := 7
 R w cs x := ∃ va vx, cs = [.int .i64 x.k, .string x.path, va, .string x.tgt, .int .i64 x.size, .string x.dig, vx] ∧ SeqAt atrS w va x.attrs ∧ SeqAt extS w vx x.exts
 len h := by
  obtain ⟨_, _, rfl, _⟩ := h
  rfl
 one h u hu := by
  obtain ⟨_, _, rfl, h1, h2⟩ := h
  simp only [List.mem_cons, List.not_mem_nil, or_false] at hu
  rcases hu with rfl | rfl | rfl | rfl | rfl | rfl | rfl
  any_goals rfl
  ·exact h1.one
  ·exact h2.one
 keep h hb := by
  obtain ⟨va, vx, e, h1, h2⟩ := h
  exact ⟨va, vx, e, h1.below hb, h2.below hb⟩
end
section
open Go.RowKit
theorem str1 {w0 W : World} (_ : Below w0.heap.size w0 W) (s : ByteArray) : SeqAt strS (W.alloc (.cells #[.string s] 9)) (.slice (some ⟨W.heap.size, 0, none⟩) 1 1) [s] := by
 refine ⟨_, _, rfl, Nat.le_refl _, by decide, fun i x hx => ?_⟩
 cases i with
 | zero =>
  obtain rfl : s = x := by simpa using hx
  refine ⟨_, _, [.string s], rfl, rfl, fun j u hu => ?_⟩
  have := (Blk.new W 9 [.string s]).cell hu
  simpa using this
 | succ i => simp at hx
end
end Go.Proofs.YthkjphebhafgoaaGreatDoor
