/-
  Joined: MbG MbP MgP MgA.
-/
import Derived.Test.YtbccghbngaiceaaGreatDoorMMn27
import Derived.Test.YtbccghbngaiceaaGreatDoorMMn29
set_option linter.all false
set_option maxRecDepth 100000
set_option maxHeartbeats 64000000
namespace Go.Proofs.YtbccghbngaiceaaGreatDoor
section
open Go.RowKit
theorem fldE_0 {x : Ses} (h : fldE x = 0) : (1 ≤ x.num ∧ x.num ≤ 255) ∧ (0 ≤ x.date ∧ x.date ≤ 1000000000) ∧ (x.prev.size = 0 ∨ x.prev.size = 32) := by
 rw [fldE] at h
 by_cases hb : x.num < 1 ∨ 255 < x.num ∨ x.date < 0 ∨ 1000000000 < x.date
 ·rw [if_pos hb] at h; exact absurd h (by decide)
 rw [if_neg hb] at h
 by_cases q : x.prev.size ≠ 0 ∧ x.prev.size ≠ 32
 ·rw [if_pos q] at h; exact absurd h (by decide)
 ·exact ⟨by omega, by omega, by omega⟩
theorem sgnE_0 {x : Ses} (h : sgnE x = 0) : fldE x = 0 ∧ (∀ e ∈ x.ents, EntOk e) ∧ x.sig.size ≤ 2000 := by
 rw [sgnE] at h
 by_cases h1 : fldE x = 0
 ·rw [if_neg (fun q => q h1)] at h
  by_cases h2 : entsE x.ents = 0
  ·rw [if_neg (fun q => q h2)] at h
   by_cases h3 : 2000 < x.sig.size
   ·rw [if_pos h3] at h; exact absurd h (by decide)
   ·exact ⟨h1, entsE_0.1 h2, by omega⟩
  ·rw [if_pos h2] at h; exact absurd h h2
 ·rw [if_pos h1] at h; exact absurd h h1
theorem signL_size {x : Ses} (h : sgnE x = 0) (z : SesS x) : (signL x).length ≤ 60000000 := by
 obtain ⟨hf, hok, _⟩ := sgnE_0 h
 obtain ⟨g1, g2, g3⟩ := fldE_0 hf
 have hstr := z.str
 have hen := z.ents
 have h1 := numL_len x.num.toNat (by omega)
 have h2 := numL_len x.date.toNat (by omega)
 have h3 := nstL_len x.prev (by omega)
 have h4 := numL_len x.str.size (by omega)
 have h5 := nstL_len (strB (digL (bs x.str))) (by rw [strB_size, digL_len]; decide)
 have h6 := numL_len x.ents.length (by omega)
 have h7 := entsL_len hok
 have h8 := Nat.mul_le_mul hen (Nat.le_refl 4200000)
 rw [strB_size] at h1 h2 h3 h4 h5 h6
 rw [strB_size, digL_len] at h5
 rw [signL]
 simp only [List.length_append]
 omega
def dgS (x : Ses) : ByteArray := strB (digL (signL x))
theorem dirdigest_gen (w : World) (x : Ses) (ve : Value) (hve : SeqAt entS w ve x.ents) (h : SesS x) (hT : Tb w) : Calls Tryz.prog 32 #[.agg #[.int .i64 x.num, .int .i64 x.date, .string x.prev, ve, .string x.str, .string x.sig]] w fun r w' => r = .returned (.tuple #[.string (if sgnE x = 0 then dgS x else ⟨#[]⟩), .int .i64 (sgnE x)]) ∧ Below w.heap.size w w' := by
 obtain ⟨A, c, rfl, _, _⟩ := hve.slice
 have HB0 := Lib.hid ((Below.refl w.heap.size w).alloc (Nat.le_refl _) (.cells #[.int .i64 x.num, .int .i64 x.date, .string x.prev, .slice A x.ents.length c, .string x.str, .string x.sig] 43))
 have HS := Lib.hid (dirsigned_gen _ x _ (hve.below HB0.out) h (hT.below HB0.out))
 have HK : Hid (Blk (w.alloc (.cells #[.int .i64 x.num, .int .i64 x.date, .string x.prev, .slice A x.ents.length c, .string x.str, .string x.sig] 43)) w.heap.size 43 [.int .i64 x.num, .int .i64 x.date, .string x.prev, .slice A x.ents.length c, .string x.str, .string x.sig]) := Lib.hid (Blk.new w _ _)
 by_cases hE : sgnE x = 0
 ·have hbs : bs (strB (signL x)) = signL x := bs_strB (signL_lt x)
  have hz := signL_size hE h
  rw [hE, if_pos rfl] at HS
  rw [hE, if_pos rfl]
  obtain ⟨X, hX⟩ : ∃ X, strB (signL x) = X := ⟨_, rfl⟩
  have hXz : X.size ≤ 1000000000 := by rw [← hX, strB_size]; omega
  rw [hX] at HS hbs
  have HD := Lib.hid (fun (W : World) (v : Value) (hv : SeqAt strS W v [X]) => bsum_any W v X hv hXz)
  rw [hbs] at HD
  obtain ⟨D, hD⟩ : ∃ D, strB (digL (signL x)) = D := ⟨_, rfl⟩
  rw [hD] at HD
  rw [dgS, hD]
  obtain ⟨num, date, prev, ents, str, sig⟩ := x
  dsimp only at HB0 HS HK ⊢
  have a0 := HK.out.cell (i := 0) rfl
  have a1 := HK.out.cell (i := 1) rfl
  have a2 := HK.out.cell (i := 2) rfl
  have a3 := HK.out.cell (i := 3) rfl
  have a4 := HK.out.cell (i := 4) rfl
  have a5 := HK.out.cell (i := 5) rfl
  change (w.alloc (.cells #[.int .i64 num, .int .i64 date, .string prev, .slice A ents.length c, .string str, .string sig] 43)).cell? _ = _ at a0 a1 a2 a3 a4 a5
  clear hve h hT hX hXz hbs hD hz hE
  go_enter Tryz.func32, Tryz.ntmps32
  go_wp2_with fail
  refine HS.out.mono ?_
  rintro e1 w1 ⟨rfl, hb1⟩
  have HB1 := Lib.hid (HB0.out.trans (hb1.mono HB0.out.size))
  have HV := Lib.hid (SeqAt.strs w1 [X] 1 (Nat.le_refl _) (by decide))
  have HB2 := Lib.hid (HB1.out.alloc HB1.out.size (.cells #[.string X] 9))
  clear hb1 a0 a1 a2 a3 a4 a5
  go_wp2_with fail
  refine (HD.out _ _ HV.out).mono ?_
  rintro e2 w2 ⟨rfl, hb2⟩
  have HB3 := Lib.hid (HB2.out.trans (hb2.mono HB2.out.size))
  clear hb2
  go_wp2
  go_ret2
  exact ⟨rfl, HB3.out⟩
 ·rw [if_neg hE] at HS
  rw [if_neg hE]
  obtain ⟨C, hC⟩ : ∃ C, sgnE x = C := ⟨_, rfl⟩
  rw [hC] at HS hE ⊢
  have g1 : (C != 0) = true := by rw [bne, beq_eq_false_iff_ne.2 hE]; rfl
  obtain ⟨num, date, prev, ents, str, sig⟩ := x
  dsimp only at HB0 HS HK ⊢
  have a0 := HK.out.cell (i := 0) rfl
  have a1 := HK.out.cell (i := 1) rfl
  have a2 := HK.out.cell (i := 2) rfl
  have a3 := HK.out.cell (i := 3) rfl
  have a4 := HK.out.cell (i := 4) rfl
  have a5 := HK.out.cell (i := 5) rfl
  change (w.alloc (.cells #[.int .i64 num, .int .i64 date, .string prev, .slice A ents.length c, .string str, .string sig] 43)).cell? _ = _ at a0 a1 a2 a3 a4 a5
  clear hve h hT hC hE
  go_enter Tryz.func32, Tryz.ntmps32
  go_wp2_with fail
  refine HS.out.mono ?_
  rintro e1 w1 ⟨rfl, hb1⟩
  have HB1 := Lib.hid (HB0.out.trans (hb1.mono HB0.out.size))
  clear hb1 a0 a1 a2 a3 a4 a5
  go_wp2_with fail
  go_ret2
  exact ⟨rfl, HB1.out⟩
structure Sta where
 tree : List Ent
 holds : List Hol
def stepS (s : Sta) (e : Ent) (d : Int) : Int × Sta :=
 if (applyT s.tree e).1 ≠ 0 then ((applyT s.tree e).1, s)
 else if (3 < e.k ∨ (getT s.tree e.path).isSome) ∧ alwE s.holds e d ≠ 0 then (alwE s.holds e d, s)
 else if (applyH s.holds e d).1 ≠ 0 then ((applyH s.holds e d).1, s)
 else (0, ⟨(applyT s.tree e).2, (applyH s.holds e d).2⟩)
def extOut (l : List Ses) (x : Ext) : Bool :=
 if x.s = 0 then false else if (l.length : Int) < x.s then true else match l[(x.s - 1).toNat]? with
  | some y => decide ((y.str.size : Int) < x.o + x.l)
  | none => true
def storedB (l : List Ses) (e : Ent) : Bool := !(e.exts.any (extOut l))
def entsS (pre : List Ses) (d : Int) : Sta → List Ent → Int × Sta
 | s, [] => (0, s)
 | s, e :: r => if (stepS s e d).1 ≠ 0 then ((stepS s e d).1, s) else if storedB pre e then entsS pre d (stepS s e d).2 r else (2, s)
def histE : List Ses → ByteArray → Int → Sta → List Ses → Int
 | _, _, _, _, [] => 0
 | pre, p, d, s, x :: r =>
  if sgnE x ≠ 0 then sgnE x
  else if x.num ≠ (pre.length : Int) + 1 ∨ x.date < d then 14
  else if x.prev ≠ p then 20
  else if (entsS (pre ++ [x]) x.date s x.ents).1 ≠ 0 then (entsS (pre ++ [x]) x.date s x.ents).1
  else histE (pre ++ [x]) (dgS x) x.date (entsS (pre ++ [x]) x.date s x.ents).2 r
def histC (l : List Ses) : Int := histE [] ⟨#[]⟩ 0 ⟨[], []⟩ l
theorem cB_zero {p q : List UInt8} : Lib.compareBytes p q = 0 ↔ p = q := by
 rw [cmp_of]
 by_cases h : p = q
 ·rw [if_pos h]; exact ⟨fun _ => h, fun _ => rfl⟩
 ·rw [if_neg h]
  refine ⟨fun e => ?_, fun e => absurd e h⟩
  split at e <;> exact absurd e (by decide)
theorem cB_flip (p q : List UInt8) : Lib.compareBytes q p = - Lib.compareBytes p q := by
 rw [cmp_of, cmp_of]
 by_cases h : p = q
 ·rw [if_pos h, if_pos h.symm]; rfl
 ·rw [if_neg h, if_neg (fun e => h e.symm), bl_flip p q h]
  cases Op.bytesLess p q <;> rfl
theorem cB_trans : ∀ p q r : List UInt8, Lib.compareBytes p q < 0 → Lib.compareBytes q r < 0 → Lib.compareBytes p r < 0
 | [], [], _, h, _ => absurd h (by decide)
 | [], b :: y, [], _, h => absurd h (by simp [Lib.compareBytes])
 | [], b :: y, c :: z, _, _ => by simp [Lib.compareBytes]
 | a :: x, [], _, h, _ => absurd h (by simp [Lib.compareBytes])
 | a :: x, b :: y, [], _, h => absurd h (by simp [Lib.compareBytes])
 | a :: x, b :: y, c :: z, h1, h2 => by
  rw [Lib.compareBytes] at h1 h2 ⊢
  simp only [UInt8.lt_iff_toNat_lt] at h1 h2 ⊢
  by_cases ab : a.toNat < b.toNat
  ·by_cases bc : b.toNat < c.toNat
   ·rw [if_pos (by omega)]; decide
   ·rw [if_neg bc] at h2
    by_cases cb : c.toNat < b.toNat
    ·rw [if_pos cb] at h2; exact absurd h2 (by decide)
    ·rw [if_pos (by omega)]; decide
  ·rw [if_neg ab] at h1
   by_cases ba : b.toNat < a.toNat
   ·rw [if_pos ba] at h1; exact absurd h1 (by decide)
   ·rw [if_neg ba] at h1
    by_cases bc : b.toNat < c.toNat
    ·rw [if_pos (by omega)]; decide
    ·rw [if_neg bc] at h2
     by_cases cb : c.toNat < b.toNat
     ·rw [if_pos cb] at h2; exact absurd h2 (by decide)
     ·rw [if_neg cb] at h2
      rw [if_neg (by omega), if_neg (by omega)]
      exact cB_trans x y z h1 h2
theorem cmpB_zero {x y : ByteArray} : cmpB x y = 0 ↔ x = y := by
 rw [cmpB, cB_zero]
 exact ⟨fun h => ByteArray.ext (Array.toList_inj.1 h), fun h => by rw [h]⟩
theorem cmpB_flip (x y : ByteArray) : cmpB y x = - cmpB x y := cB_flip _ _
theorem cmpB_trans {x y z : ByteArray} : cmpB x y < 0 → cmpB y z < 0 → cmpB x z < 0 := cB_trans _ _ _
theorem cmpB_less {x y : ByteArray} (h : Op.bytesLess x.toList y.toList = true) : cmpB x y = -1 := by
 have hirr : ∀ l : List UInt8, Op.bytesLess l l = false := fun l => by
  induction l with
  | nil => rfl
  | cons a r ih => rw [Op.bytesLess, ih, Bool.and_false, Bool.or_false]; exact decide_eq_false (by rw [UInt8.lt_iff_toNat_lt]; omega)
 have hne : x.toList ≠ y.toList := fun e => by rw [e, hirr] at h; cases h
 have h2 := bl_flip _ _ hne
 rw [h, Bool.not_true] at h2
 rw [cmpB, cmp_of, ← Lib.toList_data, ← Lib.toList_data, if_neg hne, h2, if_neg (by decide)]
theorem cmpB_more {x y : ByteArray} (h : Op.bytesLess x.toList y.toList = false) (hne : x ≠ y) : cmpB x y = 1 := by
 have hne : x.toList ≠ y.toList := fun e => hne (by rw [ByteArray.toList_eq, ByteArray.toList_eq] at e; exact ByteArray.ext (Array.toList_inj.1 e))
 have h2 := bl_flip _ _ hne
 rw [h, Bool.not_false] at h2
 rw [cmpB, cmp_of, ← Lib.toList_data, ← Lib.toList_data, if_neg hne, h2, if_pos rfl]
theorem cmpB_self (x : ByteArray) : cmpB x x = 0 := by rw [cmpB, cmp_of, if_pos rfl]
theorem cmpPath_end {l m : List ByteArray} {i : Nat} (hl : i ≤ l.length) (hm : i ≤ m.length) (h : ¬ (i < l.length ∧ i < m.length)) : cmpPath (l.drop i) (m.drop i) = if l.length < m.length then -1 else if m.length < l.length then 1 else 0 := by
 have ht : l.length = i ∨ m.length = i := by omega
 rcases ht with ht | ht
 ·rw [show l.drop i = [] from List.drop_eq_nil_of_le (by omega)]
  by_cases q : i < m.length
  ·rw [List.drop_eq_getElem_cons q, if_pos (by omega)]; rfl
  ·rw [show m.drop i = [] from List.drop_eq_nil_of_le (by omega), if_neg (by omega), if_neg (by omega)]; rfl
 ·rw [show m.drop i = [] from List.drop_eq_nil_of_le (by omega)]
  by_cases q : i < l.length
  ·rw [List.drop_eq_getElem_cons q, if_neg (by omega), if_pos (by omega)]; rfl
  ·rw [show l.drop i = [] from List.drop_eq_nil_of_le (by omega), if_neg (by omega), if_neg (by omega)]; rfl
theorem cmpPath_zero : ∀ {l m : List ByteArray}, cmpPath l m = 0 ↔ l = m
 | [], [] => by simp [cmpPath]
 | [], y :: b => by simp [cmpPath]
 | x :: a, [] => by simp [cmpPath]
 | x :: a, y :: b => by
  rw [cmpPath]
  by_cases h : cmpB x y = 0
  ·obtain rfl := cmpB_zero.1 h
   rw [if_neg (fun c => c h), cmpPath_zero]
   exact ⟨fun e => by rw [e], fun e => (List.cons.inj e).2⟩
  ·rw [if_pos h]
   refine ⟨fun e => absurd e h, fun e => ?_⟩
   exact absurd (cmpB_zero.2 (List.cons.inj e).1) h
theorem cmpPath_flip : ∀ (l m : List ByteArray), cmpPath m l = - cmpPath l m
 | [], [] => rfl
 | [], y :: b => rfl
 | x :: a, [] => rfl
 | x :: a, y :: b => by
  rw [cmpPath, cmpPath, cmpB_flip x y]
  by_cases h : cmpB x y = 0
  ·rw [if_neg (fun c => c (by omega)), if_neg (fun c => c h), cmpPath_flip a b]
  ·rw [if_pos (by omega), if_pos h]
theorem cmpPath_trans : ∀ (l m n : List ByteArray), cmpPath l m < 0 → cmpPath m n < 0 → cmpPath l n < 0
 | [], [], _, h, _ => absurd h (by decide)
 | [], b :: y, [], _, h => absurd h (by simp [cmpPath])
 | [], b :: y, c :: z, _, _ => by simp [cmpPath]
 | a :: x, [], _, h, _ => absurd h (by simp [cmpPath])
 | a :: x, b :: y, [], _, h => absurd h (by simp [cmpPath])
 | a :: x, b :: y, c :: z, h1, h2 => by
  rw [cmpPath] at h1 h2 ⊢
  by_cases ab : cmpB a b = 0
  ·obtain rfl := cmpB_zero.1 ab
   rw [if_neg (fun q => q ab)] at h1
   by_cases bc : cmpB a c = 0
   ·rw [if_neg (fun q => q bc)] at h2 ⊢
    exact cmpPath_trans x y z h1 h2
   ·rw [if_pos bc] at h2 ⊢
    exact h2
  ·rw [if_pos ab] at h1
   by_cases bc : cmpB b c = 0
   ·obtain rfl := cmpB_zero.1 bc
    rw [if_pos ab]
    exact h1
   ·rw [if_pos bc] at h2
    have h3 := cmpB_trans h1 h2
    rw [if_pos (by omega)]
    exact h3
def jnA : List ByteArray → ByteArray
 | [] => ⟨#[]⟩
 | [x] => x
 | x :: y :: r => x ++ strB [47] ++ jnA (y :: r)
theorem splitG_ne : ∀ (l p : List Nat), ∃ y r, splitG p l = y :: r
 | [], p => ⟨p, [], rfl⟩
 | c :: r, p => by
  rw [splitG]
  split
  ·exact ⟨_, _, rfl⟩
  ·exact splitG_ne r (p ++ [c])
theorem jnA_split : ∀ (l p : List Nat), jnA ((splitG p l).map strB) = strB (p ++ l)
 | [], p => by rw [splitG, List.append_nil]; rfl
 | c :: r, p => by
  rw [splitG]
  by_cases h : c = 47
  ·subst h
   rw [if_pos rfl]
   obtain ⟨y, s, hs⟩ := splitG_ne r []
   have ih := jnA_split r []
   rw [hs] at ih ⊢
   rw [List.map_cons, List.map_cons, jnA]
   rw [List.map_cons] at ih
   rw [ih, List.nil_append, strB_cat, strB_cat]
   simp
  ·rw [if_neg h, jnA_split r (p ++ [c]), List.append_assoc]
   rfl
theorem jnA_elems (s : ByteArray) : jnA (elemsB s) = s := by
 rw [elemsB, elemsL]
 by_cases h : bs s = []
 ·rw [if_pos h, List.map_nil, jnA]
  have := strB_bs s
  rw [h] at this
  exact this
 ·rw [if_neg h, jnA_split, List.nil_append, strB_bs]
theorem pcmp_zero {a b : ByteArray} : pcmp a b = 0 ↔ a = b := by
 rw [pcmp, cmpPath_zero]
 exact ⟨fun h => by rw [← jnA_elems a, h, jnA_elems], fun h => by rw [h]⟩
theorem pcmp_flip (a b : ByteArray) : pcmp b a = - pcmp a b := cmpPath_flip _ _
theorem pcmp_trans {a b c : ByteArray} : pcmp a b < 0 → pcmp b c < 0 → pcmp a c < 0 := cmpPath_trans _ _ _
theorem pcmp_self (a : ByteArray) : pcmp a a = 0 := pcmp_zero.2 rfl
def Ord {α : Type} (key : α → ByteArray) (l : List α) : Prop := l.Pairwise fun a b => pcmp (key a) (key b) < 0
theorem ord_split {α : Type} {key : α → ByteArray} (p : ByteArray) : ∀ {l : List α}, Ord key l → ∃ L G, l = L ++ G ∧ (∀ x ∈ L, pcmp (key x) p < 0) ∧ (∀ x ∈ G, ¬ pcmp (key x) p < 0) ∧ (∀ x ∈ G.tail, pcmp p (key x) < 0)
 | [], _ => ⟨[], [], rfl, fun x h => (nomatch h), fun x h => (nomatch h), fun x h => (nomatch h)⟩
 | a :: r, h => by
  obtain ⟨h1, h2⟩ := List.pairwise_cons.1 h
  by_cases q : pcmp (key a) p < 0
  ·obtain ⟨L, G, e, hL, hG, hT⟩ := ord_split p (l := r) h2
   refine ⟨a :: L, G, by rw [e]; rfl, fun x hx => ?_, hG, hT⟩
   rcases List.mem_cons.1 hx with rfl | hx
   ·exact q
   ·exact hL x hx
  ·have hr : ∀ x ∈ r, pcmp p (key x) < 0 := fun x hx => by
    have h3 := h1 x hx
    by_cases e : pcmp (key a) p = 0
    ·rw [← pcmp_zero.1 e]; exact h3
    ·have h4 : pcmp p (key a) < 0 := by rw [pcmp_flip (key a) p]; omega
     exact pcmp_trans h4 h3
   refine ⟨[], a :: r, rfl, fun x h => (nomatch h), fun x hx => ?_, hr⟩
   rcases List.mem_cons.1 hx with rfl | hx
   ·exact q
   ·have := hr x hx
    rw [pcmp_flip (key x) p] at this
    omega
theorem get_idx {t : List Ent} {p : ByteArray} : (idxT t p = none ∧ getT t p = none ∧ ∀ x ∈ t, x.path ≠ p) ∨ ∃ L x G, t = L ++ x :: G ∧ (∀ y ∈ L, y.path ≠ p) ∧ x.path = p ∧ idxT t p = some L.length ∧ getT t p = some x := by
 induction t with
 | nil => exact .inl ⟨rfl, rfl, fun x h => (nomatch h)⟩
 | cons a r ih =>
  by_cases q : a.path = p
  ·refine .inr ⟨[], a, r, rfl, fun y h => (nomatch h), q, ?_, ?_⟩
   ·rw [idxT, idxP, if_pos (decide_eq_true q)]; rfl
   ·rw [getT, List.find?_cons, decide_eq_true q]
  ·have e1 : idxT (a :: r) p = (idxT r p).map (· + 1) := by rw [idxT, idxP, if_neg (by rw [decide_eq_false q]; decide)]; rfl
   have e2 : getT (a :: r) p = getT r p := by rw [getT, List.find?_cons, decide_eq_false q]; rfl
   rw [e1, e2]
   rcases ih with ⟨h1, h2, h3⟩ | ⟨L, x, G, e, h1, h2, h3, h4⟩
   ·refine .inl ⟨by rw [h1]; rfl, h2, fun x hx => ?_⟩
    rcases List.mem_cons.1 hx with rfl | hx
    ·exact q
    ·exact h3 x hx
   ·refine .inr ⟨a :: L, x, G, by rw [e]; rfl, fun y hy => ?_, h2, by rw [h3]; rfl, h4⟩
    rcases List.mem_cons.1 hy with rfl | hy
    ·exact q
    ·exact h1 y hy
theorem insK_true {e : Ent} : ∀ {l : List Ent}, (∀ x ∈ l, x.path ≠ e.path) → insK e true l = l
 | [], _ => by rw [insK, if_neg (by decide)]
 | x :: r, h => by
  rw [insK, if_neg (by simp), if_neg (h x List.mem_cons_self), Bool.true_or, insK_true fun y hy => h y (List.mem_cons_of_mem _ hy)]
  rfl
theorem insK_less {e : Ent} {G : List Ent} : ∀ {L : List Ent}, (∀ x ∈ L, pcmp x.path e.path < 0) → insK e false (L ++ G) = L ++ insK e false G
 | [], _ => rfl
 | x :: r, h => by
  have h1 := h x List.mem_cons_self
  have h2 : ¬ pcmp e.path x.path ≤ 0 := by rw [pcmp_flip x.path e.path]; omega
  have h3 : x.path ≠ e.path := fun q => by rw [q, pcmp_self] at h1; exact absurd h1 (by decide)
  rw [List.cons_append, insK, if_neg (fun q => h2 q.2), if_neg h3, decide_eq_false h2, Bool.or_false, insK_less fun y hy => h y (List.mem_cons_of_mem _ hy)]
  rfl
theorem ne_of_less {a b : ByteArray} (h : pcmp a b < 0) : a ≠ b := fun q => by rw [q, pcmp_self] at h; exact absurd h (by decide)
theorem halve_eq {f : Nat → Bool} {k : Nat} (hf : ∀ h, f h = decide (h < k)) : ∀ n i j, i ≤ k → k ≤ j → j ≤ i + n → halve f n i j = k
 | 0, i, j, h1, h2, h3 => by rw [halve]; omega
 | n + 1, i, j, h1, h2, h3 => by
  rw [halve]
  by_cases hij : i < j
  ·rw [if_pos hij, hf]
   by_cases q : (i + j) / 2 < k
   ·rw [if_pos (decide_eq_true q)]
    exact halve_eq hf n _ _ (by omega) h2 (by omega)
   ·rw [if_neg (by rw [decide_eq_false q]; decide)]
    exact halve_eq hf n _ _ h1 (by omega) (by omega)
  ·rw [if_neg hij]; omega
theorem placeT_eq {L G : List Ent} {p : ByteArray} (hL : ∀ x ∈ L, pcmp x.path p < 0) (hG : ∀ x ∈ G, ¬ pcmp x.path p < 0) : placeT (L ++ G) p = L.length := by
 rw [placeT]
 refine halve_eq (fun h => ?_) _ _ _ (Nat.zero_le _) (by rw [List.length_append]; omega) (by omega)
 rw [belowP]
 by_cases q : h < L.length
 ·rw [List.getElem?_append_left q, List.getElem?_eq_getElem q]
  rw [decide_eq_true q]
  exact decide_eq_true (hL _ (List.getElem_mem q))
 ·rw [List.getElem?_append_right (by omega), decide_eq_false q]
  cases hx : G[h - L.length]? with
  | none => rfl
  | some x => exact decide_eq_false (hG x (List.mem_of_getElem? hx))
theorem insAt_split {α : Type} (L G : List α) (x : α) : insAt (L ++ G) L.length x = L ++ x :: G := by
 rw [insAt, List.take_left, List.drop_left]
theorem insK_none {t : List Ent} {e : Ent} (hs : Ord Ent.path t) (h : ∀ x ∈ t, x.path ≠ e.path) : insK e false t = insAt t (placeT t e.path) e := by
 obtain ⟨L, G, rfl, hL, hG, hT⟩ := ord_split e.path hs
 rw [placeT_eq hL hG, insAt_split, insK_less hL]
 congr 1
 cases G with
 | nil => rw [insK, if_pos rfl]
 | cons g r =>
  have h1 := hG g List.mem_cons_self
  have h2 := h g (List.mem_append_right _ List.mem_cons_self)
  have h3 : pcmp e.path g.path ≤ 0 := by rw [pcmp_flip g.path e.path]; omega
  rw [insK, if_pos ⟨rfl, h3⟩, if_neg h2, decide_eq_true h3, Bool.false_or, insK_true fun y hy => h y (List.mem_append_right _ (List.mem_cons_of_mem _ hy))]
  rfl
theorem ord_at {L G : List Ent} {x : Ent} (hs : Ord Ent.path (L ++ x :: G)) : (∀ y ∈ L, pcmp y.path x.path < 0) ∧ ∀ y ∈ G, pcmp x.path y.path < 0 := by
 obtain ⟨_, h2, h3⟩ := List.pairwise_append.1 hs
 exact ⟨fun y hy => h3 y hy x List.mem_cons_self, (List.pairwise_cons.1 h2).1⟩
theorem insK_some {L G : List Ent} {x e : Ent} (hs : Ord Ent.path (L ++ x :: G)) (hp : x.path = e.path) : insK e false (L ++ x :: G) = L ++ e :: G := by
 obtain ⟨h1, h2⟩ := ord_at hs
 rw [hp] at h1 h2
 rw [insK_less h1]
 congr 1
 have h3 : pcmp e.path x.path ≤ 0 := by rw [hp, pcmp_self]; decide
 rw [insK, if_pos ⟨rfl, h3⟩, if_pos hp, decide_eq_true h3, Bool.false_or, insK_true fun y hy => (ne_of_less (h2 y hy)).symm]
 rfl
theorem isEmpty_size (s : ByteArray) : s.toList.isEmpty = decide (s.size = 0) := by
 by_cases h : s.size = 0
 ·rw [decide_eq_true h, show s = ⟨#[]⟩ by apply ByteArray.ext; exact Array.eq_empty_of_size_eq_zero h]
  exact isEmptyV0
 ·rw [decide_eq_false h, isEmptyV h]
theorem set_split {α : Type} (L G : List α) (x e : α) : (L ++ x :: G).set L.length e = L ++ e :: G := by
 rw [List.set_append_right _ _ (Nat.le_refl _), Nat.sub_self]
 rfl
theorem applyT_eq {t : List Ent} {e : Ent} (hs : Ord Ent.path t) : applyTR t e = applyT t e := by
 rw [applyTR, applyT]
 by_cases h0 : enE e ≠ 0
 ·rw [if_pos h0, if_pos h0]
 rw [if_neg h0, if_neg h0, applyTS]
 by_cases h3 : 3 < e.k
 ·rw [if_pos h3, if_pos h3]
  rw [isEmpty_size]
  rcases get_idx (t := t) (p := e.path) with ⟨g1, g2, _⟩ | ⟨L, x, G, rfl, _, _, g1, g2⟩
  ·rw [g1, g2]
   by_cases hz : e.path.size = 0
   ·rw [if_neg (fun q => by have := q.2; rw [decide_eq_true hz] at this; cases this), if_neg (fun q => q.2 hz)]
    rfl
   ·rw [if_pos ⟨rfl, decide_eq_false hz⟩, if_pos ⟨rfl, hz⟩]
  ·rw [g1, g2, if_neg (fun q => by cases q.1), if_neg (fun q => by cases q.1)]
   rfl
 ·rw [if_neg h3, if_neg h3]
  by_cases hd : dirE t (parB e.path) ≠ 0
  ·rw [if_pos hd, if_pos hd]
  rw [if_neg hd, if_neg hd]
  rcases get_idx (t := t) (p := e.path) with ⟨g1, g2, g3⟩ | ⟨L, x, G, rfl, _, gp, g1, g2⟩
  ·rw [g1, g2]
   dsimp only
   rw [insK_none hs g3]
  ·rw [g1, g2]
   dsimp only
   rw [List.getElem?_append_right (Nat.le_refl _), Nat.sub_self, List.getElem?_cons_zero]
   dsimp only
   rw [insK_some hs gp, set_split]
theorem ord_put {L G : List Ent} {e : Ent} (hL : ∀ y ∈ L, pcmp y.path e.path < 0) (hG : ∀ y ∈ G, pcmp e.path y.path < 0) (h1 : Ord Ent.path L) (h2 : Ord Ent.path G) : Ord Ent.path (L ++ e :: G) := by
 refine List.pairwise_append.2 ⟨h1, List.pairwise_cons.2 ⟨hG, h2⟩, fun a ha b hb => ?_⟩
 rcases List.mem_cons.1 hb with rfl | hb
 ·exact hL a ha
 ·exact pcmp_trans (hL a ha) (hG b hb)
theorem applyT_ord {t : List Ent} {e : Ent} (hs : Ord Ent.path t) : Ord Ent.path (applyT t e).2 := by
 rw [applyT]
 split
 ·exact List.Pairwise.nil
 split
 ·split
  ·exact List.Pairwise.nil
  ·exact hs.filter _
 split
 ·exact List.Pairwise.nil
 rcases get_idx (t := t) (p := e.path) with ⟨g1, _, g3⟩ | ⟨L, x, G, rfl, _, gp, g1, _⟩
 ·rw [g1]
  dsimp only
  split
  ·exact List.Pairwise.nil
  ·obtain ⟨L, G, rfl, hL, hG, hT⟩ := ord_split e.path hs
   dsimp only
   rw [placeT_eq hL hG, insAt_split]
   obtain ⟨p1, p2, _⟩ := List.pairwise_append.1 hs
   refine ord_put hL (fun y hy => ?_) p1 p2
   have a1 := hG y hy
   have a2 : pcmp y.path e.path ≠ 0 := fun q => g3 y (List.mem_append_right _ hy) (pcmp_zero.1 q)
   rw [pcmp_flip y.path e.path]
   omega
 ·rw [g1]
  dsimp only
  rw [List.getElem?_append_right (Nat.le_refl _), Nat.sub_self, List.getElem?_cons_zero]
  dsimp only
  split
  ·rw [set_split]
   obtain ⟨a1, a2⟩ := ord_at hs
   obtain ⟨p1, p2, _⟩ := List.pairwise_append.1 hs
   rw [gp] at a1 a2
   exact ord_put a1 a2 p1 (List.pairwise_cons.1 p2).2
  ·exact List.Pairwise.nil
theorem insF_idx {f : Hol → Bool} {x : Hol} : ∀ {l : List Hol}, insF f x l = insAt l ((idxP f l).getD l.length) x
 | [] => rfl
 | h :: r => by
  rw [insF, idxP]
  by_cases q : f h = true
  ·rw [if_pos q, if_pos q]; rfl
  ·rw [if_neg q, if_neg q, insF_idx]
   cases idxP f r <;> rfl
theorem idx_congr {α : Type} {f g : α → Bool} {l : List α} (h : ∀ x, f x = g x) : idxP f l = idxP g l := by rw [show f = g from funext h]
theorem hold_at {l : List Hol} {p : ByteArray} (hs : Ord Hol.p l) : (∀ h ∈ l, h.p ≠ p) ∨ ∃ L x G, l = L ++ x :: G ∧ (∀ y ∈ L, y.p ≠ p) ∧ x.p = p ∧ ∀ y ∈ G, y.p ≠ p := by
 induction l with
 | nil => exact .inl fun h hh => (nomatch hh)
 | cons a r ih =>
  obtain ⟨h1, h2⟩ := List.pairwise_cons.1 hs
  by_cases q : a.p = p
  ·exact .inr ⟨[], a, r, rfl, fun y h => (nomatch h), q, fun y hy => by rw [← q]; exact (ne_of_less (h1 y hy)).symm⟩
  ·rcases ih h2 with h | ⟨L, x, G, rfl, g1, g2, g3⟩
   ·refine .inl fun y hy => ?_
    rcases List.mem_cons.1 hy with rfl | hy
    ·exact q
    ·exact h y hy
   ·refine .inr ⟨a :: L, x, G, rfl, fun y hy => ?_, g2, g3⟩
    rcases List.mem_cons.1 hy with rfl | hy
    ·exact q
    ·exact g1 y hy
theorem fold_none {p : ByteArray} {g : Hol → Int → Int} : ∀ {l : List Hol} {u : Int}, (∀ h ∈ l, h.p ≠ p) → l.foldl (fun u h => if h.p = p then g h u else u) u = u
 | [], _, _ => rfl
 | a :: r, u, h => by
  rw [List.foldl_cons, if_neg (h a List.mem_cons_self)]
  exact fold_none fun y hy => h y (List.mem_cons_of_mem _ hy)
theorem fold_one {p : ByteArray} {g : Hol → Int → Int} {L G : List Hol} {x : Hol} {u : Int} (h1 : ∀ h ∈ L, h.p ≠ p) (h2 : x.p = p) (h3 : ∀ h ∈ G, h.p ≠ p) : (L ++ x :: G).foldl (fun u h => if h.p = p then g h u else u) u = g x u := by
 rw [List.foldl_append, fold_none h1, List.foldl_cons, if_pos h2, fold_none h3]
theorem lastU_none {l : List Hol} {p : ByteArray} (h : ∀ y ∈ l, y.p ≠ p) : lastU l p = -1 := fold_none (g := fun h _ => h.u) h
theorem lastU_one {p : ByteArray} {L G : List Hol} {x : Hol} (h1 : ∀ h ∈ L, h.p ≠ p) (h2 : x.p = p) (h3 : ∀ h ∈ G, h.p ≠ p) : lastU (L ++ x :: G) p = x.u := fold_one (g := fun h _ => h.u) h1 h2 h3
theorem untilH_none {l : List Hol} {p : ByteArray} {u : Int} (h : ∀ y ∈ l, y.p ≠ p) : untilH l p u = u := fold_none (g := fun h u => max u h.u) h
theorem untilH_one {p : ByteArray} {L G : List Hol} {x : Hol} {u : Int} (h1 : ∀ h ∈ L, h.p ≠ p) (h2 : x.p = p) (h3 : ∀ h ∈ G, h.p ≠ p) : untilH (L ++ x :: G) p u = max u x.u := fold_one (g := fun h u => max u h.u) h1 h2 h3
theorem until_eq {l : List Hol} {p : ByteArray} {v : Int} (hs : Ord Hol.p l) (hv : 0 ≤ v) : (if v < lastU l p then lastU l p else v) = untilH l p v := by
 rcases hold_at (p := p) hs with h | ⟨L, x, G, rfl, h1, h2, h3⟩
 ·rw [lastU_none h, untilH_none h, if_neg (by omega)]
 ·rw [lastU_one h1 h2 h3, untilH_one h1 h2 h3]
  by_cases q : v < x.u
  ·rw [if_pos q]; omega
  ·rw [if_neg q]; omega
theorem wth_len {l : List Hol} {p : ByteArray} (hs : Ord Hol.p l) (hu : ∀ h ∈ l, 0 ≤ h.u) : lastU l p < 0 ↔ (wthH l p).length = l.length := by
 rcases hold_at (p := p) hs with h | ⟨L, x, G, rfl, h1, h2, h3⟩
 ·rw [lastU_none h, wthH, List.filter_eq_self.2 fun y hy => decide_eq_true (h y hy)]
  exact ⟨fun _ => rfl, fun _ => by decide⟩
 ·rw [lastU_one h1 h2 h3]
  have h4 := hu x (List.mem_append_right _ List.mem_cons_self)
  refine ⟨fun q => absurd q (by omega), fun q => ?_⟩
  exfalso
  have h5 := List.length_filter_le (fun h : Hol => decide (h.p ≠ p)) L
  have h6 := List.length_filter_le (fun h : Hol => decide (h.p ≠ p)) G
  rw [wthH, List.filter_append, List.filter_cons, if_neg (by rw [h2]; simp), List.length_append, List.length_append, List.length_cons] at q
  omega
theorem applyH_eq {l : List Hol} {e : Ent} {d : Int} (hs : Ord Hol.p l) (hu : ∀ h ∈ l, 0 ≤ h.u) : applyR l e d = applyH l e d := by
 have ha : Ord Hol.p (actH l d) := hs.filter _
 have hu' : ∀ h ∈ actH l d, 0 ≤ h.u := fun h hh => hu h (List.mem_filter.1 hh).1
 rw [applyR, applyH]
 rw [show (actH l d).filter (fun h => decide (h.p ≠ e.path)) = wthH (actH l d) e.path from rfl]
 by_cases h5 : e.k = 5
 ·rw [if_pos h5, if_pos h5, until_eq ha (by omega), insF_idx]
  rw [idx_congr (g := fun h => decide (0 < pcmp h.p e.path)) fun h => by
   rw [pcmp_flip h.p e.path]
   by_cases q : 0 < pcmp h.p e.path
   ·rw [decide_eq_true q, decide_eq_true (by omega)]
   ·rw [decide_eq_false q, decide_eq_false (by omega)]]
 ·rw [if_neg h5, if_neg h5]
  by_cases h6 : e.k = 6
  ·rw [if_pos h6, if_pos h6]
   by_cases q : (wthH (actH l d) e.path).length = (actH l d).length
   ·rw [if_pos q, if_pos ((wth_len ha hu').2 q)]
   ·rw [if_neg q, if_neg fun c => q ((wth_len ha hu').1 c)]
  ·rw [if_neg h6, if_neg h6]
theorem insF_ord {p : ByteArray} {u : Int} : ∀ {l : List Hol}, Ord Hol.p l → (∀ h ∈ l, h.p ≠ p) → Ord Hol.p (insF (fun h => decide (pcmp p h.p < 0)) ⟨p, u⟩ l) ∧ ∀ h ∈ insF (fun h => decide (pcmp p h.p < 0)) ⟨p, u⟩ l, h = ⟨p, u⟩ ∨ h ∈ l
 | [], _, _ => ⟨List.pairwise_singleton _ _, fun h hh => .inl (List.mem_singleton.1 hh)⟩
 | a :: r, hs, hn => by
  obtain ⟨h1, h2⟩ := List.pairwise_cons.1 hs
  rw [insF]
  by_cases q : pcmp p a.p < 0
  ·rw [if_pos (decide_eq_true q)]
   refine ⟨List.pairwise_cons.2 ⟨fun y hy => ?_, hs⟩, fun h hh => List.mem_cons.1 hh⟩
   rcases List.mem_cons.1 hy with rfl | hy
   ·exact q
   ·exact pcmp_trans q (h1 y hy)
  ·rw [if_neg (by rw [decide_eq_false q]; decide)]
   obtain ⟨i1, i2⟩ := insF_ord (p := p) (u := u) h2 fun h hh => hn h (List.mem_cons_of_mem _ hh)
   have qa : pcmp a.p p < 0 := by
    have : pcmp p a.p ≠ 0 := fun c => hn a List.mem_cons_self (pcmp_zero.1 c).symm
    rw [pcmp_flip p a.p]
    omega
   refine ⟨List.pairwise_cons.2 ⟨fun y hy => ?_, i1⟩, fun h hh => ?_⟩
   ·rcases i2 y hy with rfl | hy
    ·exact qa
    ·exact h1 y hy
   ·rcases List.mem_cons.1 hh with rfl | hh
    ·exact .inr List.mem_cons_self
    ·exact (i2 h hh).imp id (List.mem_cons_of_mem _)
theorem applyH_ord {l : List Hol} {e : Ent} {d : Int} (hs : Ord Hol.p l) (hu : ∀ h ∈ l, 0 ≤ h.u) : Ord Hol.p (applyH l e d).2 ∧ ∀ h ∈ (applyH l e d).2, 0 ≤ h.u := by
 rw [← applyH_eq hs hu]
 have ha : Ord Hol.p (actH l d) := hs.filter _
 have hu' : ∀ h ∈ actH l d, 0 ≤ h.u := fun h hh => hu h (List.mem_filter.1 hh).1
 have hw : Ord Hol.p (wthH (actH l d) e.path) := ha.filter _
 have hw' : ∀ h ∈ wthH (actH l d) e.path, 0 ≤ h.u := fun h hh => hu' h (List.mem_filter.1 hh).1
 rw [applyR]
 by_cases h5 : e.k = 5
 ·rw [if_pos h5]
  obtain ⟨i1, i2⟩ := insF_ord (p := e.path) (u := if ((valD (bs e.tgt) : Nat) : Int) < lastU (actH l d) e.path then lastU (actH l d) e.path else ((valD (bs e.tgt) : Nat) : Int)) hw fun h hh => of_decide_eq_true (List.mem_filter.1 hh).2
  refine ⟨i1, fun h hh => ?_⟩
  rcases i2 h hh with rfl | hh
  ·dsimp only
   split <;> omega
  ·exact hw' h hh
 ·rw [if_neg h5]
  split
  ·split
   ·exact ⟨List.Pairwise.nil, fun h hh => (nomatch hh)⟩
   ·exact ⟨hw, hw'⟩
  ·exact ⟨ha, hu'⟩
structure StaO (s : Sta) : Prop where
 tree : Ord Ent.path s.tree
 holds : Ord Hol.p s.holds
 pos : ∀ h ∈ s.holds, 0 ≤ h.u
theorem stepS_ord {s : Sta} {e : Ent} {d : Int} (h : StaO s) : StaO (stepS s e d).2 := by
 rw [stepS]
 split
 ·exact h
 split
 ·exact h
 split
 ·exact h
 ·exact ⟨applyT_ord h.tree, (applyH_ord h.holds h.pos).1, (applyH_ord h.holds h.pos).2⟩
theorem path31_ex (w : World) (v : Value) (l : List ByteArray) (hv : SeqAt strS w v l) (hl : l.length ≤ 1000) (hz : ∀ x ∈ l, x.size ≤ 1000) : Calls Tryz.prog 211 #[v] w fun e w' => e = .returned (.string (jnB l)) ∧ w = w' := by
 have Hv := Lib.hid hv
 have Hz := Lib.hid hz
 obtain ⟨A, c, rfl, h1, h2⟩ := hv.slice
 clear hv hz
 go_enter Tryz.func211, Tryz.ntmps211
 go_wp2
 go_loop [3, 4] (fun y x => ∃ (k : Nat) (s : ByteArray), k ≤ l.length ∧ x = .int .i64 (k : Int) ∧ y = .string s ∧ s.size ≤ k * 1001 ∧ s = jnB (l.take k)) (fun _ x => l.length - (intOf x).toNat)
 case atStart => exact ⟨0, ⟨#[]⟩, by omega, rfl, rfl, Nat.zero_le _, rfl⟩
 case round =>
  obtain ⟨k, s, hk, rfl, rfl, hs, hq⟩ := hrel
  have HQ := Lib.hid hq
  clear hq
  by_cases h : k < l.length
  ·have hkI : (k : Int) < l.length := by omega
   obtain ⟨x, hx⟩ : ∃ x, l[k]? = some x := ⟨_, List.getElem?_eq_getElem h⟩
   have hxz := Hz.out x (List.mem_of_getElem? hx)
   have Htk : Hid (l.take (k + 1) = l.take k ++ [x]) := Lib.hid (by rw [List.take_add_one, hx]; rfl)
   obtain ⟨_, _, e9, _, _, h4⟩ := Hv.out
   cases e9
   obtain ⟨b, o, cs, rfl, rfl, hc⟩ := h4 k x hx
   have c0 : w.cell? ⟨b, o + k, none⟩ = some (.string x) := by simpa [strS] using hc 0 _ rfl
   clear hc h4 hx
   have hcc : ¬ 9223372036854775807 < s.size + x.size := by omega
   by_cases h0 : k = 0
   ·subst h0
    have HN : Hid (s ++ x = jnB (l.take 1)) := Lib.hid (by
     rw [Htk.out, HQ.out, List.take_zero, List.nil_append, jnB_one, jnB_nil]
     apply ByteArray.ext
     simp)
    rw [Nat.add_zero] at c0
    rw [show ((0 : Nat) : Int) = 0 from rfl]
    go_wp2
    go_round
    case rel => exact ⟨1, _, by omega, by go_num, rfl, by rw [ByteArray.size_append]; omega, HN.out⟩
    case measure => simp [intOf]; omega
   ·have f1 : (0 : Int) < k := by omega
    have n0 : 0 < k := by omega
    have HN : Hid (s ++ ⟨#[47]⟩ ++ x = jnB (l.take (k + 1))) := Lib.hid (by
     rw [Htk.out, HQ.out, jnB_snoc]
     intro e
     have h1 : (l.take k).length = 0 := by rw [e]; rfl
     rw [List.length_take] at h1
     omega)
    have hcd : ¬ 9223372036854775807 < s.size + 1 := by omega
    have hce : ¬ 9223372036854775807 < s.size + 1 + x.size := by omega
    go_wp2
    go_round
    case rel => exact ⟨k + 1, _, by omega, by go_num, rfl, by rw [ByteArray.size_append, ByteArray.size_append]; show s.size + 1 + x.size ≤ _; omega, HN.out⟩
    case measure => simp [intOf]; omega
  ·obtain rfl : k = l.length := by omega
   have hkI : ¬ ((l.length : Nat) : Int) < (l.length : Int) := by omega
   have HE : Hid (s = jnB l) := Lib.hid (by rw [HQ.out, List.take_length])
   go_wp2
   go_ret
   exact ⟨by rw [HE.out] <;> rfl, rfl⟩
theorem parent31_ex (w : World) (s : ByteArray) (hs : s.size ≤ 1000000) (hok : pathE (bs s) = 0) : Calls Tryz.prog 134 #[.string s] w fun e w' => (∃ n : Int, e = .returned (.tuple #[.string (parB s), .int .i64 n])) ∧ Below w.heap.size w w' := by
 have HS := Lib.hid (fun W => split31_any W s hs)
 have HL : Hid ((elemsL (bs s)).length ≤ 8 ∧ ∀ x ∈ elemsL (bs s), x.length ≤ 200) := Lib.hid (by
  have h := hok
  rw [pathE] at h
  split at h
  ·cases h
  ·split at h
   ·cases h
   ·refine ⟨by omega, fun x hx => ?_⟩
    have := (elemsL_size (s := bs s)).1 x hx
    omega)
 obtain ⟨R, hR⟩ : ∃ R, parB s = R := ⟨_, rfl⟩
 rw [hR]
 rw [parB_jn, elemsB] at hR
 have HR := Lib.hid hR
 rw [hok] at HS
 clear hR hok
 generalize elemsL (bs s) = L at *
 go_enter Tryz.func134, Tryz.ntmps134
 go_wp2_with fail
 refine (HS.out _).mono ?_
 rintro e1 w1 ⟨⟨v, rfl, ho⟩, hb1⟩
 have HO := Lib.hid ho
 have HB1 := Lib.hid hb1
 clear ho hb1
 have ho := by first | exact HO.out rfl | exact HO.out trivial
 obtain ⟨hl8, hlz⟩ := HL.out
 have HV : Hid (SeqAt strS w1 v (L.map strB)) := Lib.hid (strs_read (l := L.map strB) (by rw [List.length_map, List.map_map]; exact ho) HB1.out)
 obtain ⟨Av, cv, rfl⟩ := ownV_slice ho
 clear HO HL
 by_cases hn : L.length = 0
 ·have f1 : ((L.length : Int) == 0) = true := by rw [hn]; rfl
  have HE : Hid (R = ⟨#[]⟩) := Lib.hid (by
   rw [← HR.out, List.length_eq_zero_iff.1 hn]
   rfl)
  clear hn
  go_wp2_with fail
  go_ret2
  exact ⟨⟨1, by rw [HE.out] <;> rfl⟩, HB1.out⟩
 ·have f1 : ((L.length : Int) == 0) = false := by rw [beq_eq_false_iff_ne]; omega
  obtain ⟨m, hm⟩ : ∃ m, L.length = m + 1 := ⟨L.length - 1, by omega⟩
  have hmI : (L.length : Int) - 1 = m := by omega
  have hmB : (m : Int) ≤ L.length := by omega
  have HE : Hid (jnB ((L.map strB).take m) = R) := Lib.hid (by
   rw [← HR.out, List.dropLast_eq_take, List.length_map, hm]
   rfl)
  obtain ⟨g, cap, e9, _⟩ := ownV_at ho (by omega)
  cases e9
  obtain ⟨_, _, e8, hcap, hcap2⟩ := HV.out.slice
  rw [List.length_map] at e8 hcap
  cases e8
  have hmC : (m : Int) ≤ cv := by omega
  have hq := path31_ex w1 (.slice (some ⟨g, 0, none⟩) m cv) ((L.map strB).take m) (HV.out.take (by rw [List.length_map]; omega)) (by rw [List.length_take, List.length_map]; omega) (fun x hx => by
   obtain ⟨p, hp, rfl⟩ := List.mem_map.1 (List.mem_of_mem_take hx)
   rw [strB_size]
   have := hlz p hp
   omega)
  rw [HE.out] at hq
  have HP := Lib.hid hq
  clear hq hm hn HV
  go_wp2_with fail
  refine HP.out.mono ?_
  rintro e2 w2 ⟨rfl, rfl⟩
  go_wp2_with fail
  go_ret2
  exact ⟨⟨0, rfl⟩, HB1.out⟩
theorem under31_ex (w : World) (s d : ByteArray) (hs : s.size ≤ 1000000) (hd : d.size ≤ 1000000) : Calls Tryz.prog 133 #[.string s, .string d] w fun e w' => e = .returned (.bool (undB s d)) ∧ Below w.heap.size w w' := by
 have HCs := Lib.hid (fun W => path_any W s hs)
 have HCd := Lib.hid (fun W => path_any W d hd)
 have HEs := Lib.hid (fun W => elems_any W s hs)
 have HEd := Lib.hid (fun W => elems_any W d hd)
 have hl1 := (elemsL_size (s := bs s)).2
 have hl2 := (elemsL_size (s := bs d)).2
 rw [bs_len] at hl1 hl2
 obtain ⟨R, hR⟩ : ∃ R, undB s d = R := ⟨_, rfl⟩
 rw [hR]
 unfold undB elemsB at hR
 generalize pathE (bs s) = P at *
 generalize pathE (bs d) = Q at *
 generalize elemsL (bs s) = L at *
 generalize elemsL (bs d) = M at *
 have HR := Lib.hid hR
 clear hR
 go_enter Tryz.func133, Tryz.ntmps133
 go_wp2_with fail
 refine (HCs.out _).mono ?_
 rintro e1 w1 ⟨rfl, hb1⟩
 have HB1 := Lib.hid hb1
 clear hb1
 by_cases h0 : P = 0
 ·subst h0
  go_wp2_with fail
  refine (HCd.out _).mono ?_
  rintro e2 w2 ⟨rfl, hb2⟩
  have HB2 := Lib.hid (HB1.out.trans (hb2.mono HB1.out.size))
  clear hb2 HB1
  by_cases h1 : Q = 0
  ·subst h1
   go_wp2_with fail
   refine (HEs.out _).mono ?_
   rintro e3 w3 ⟨v3, rfl, ho3, hb3⟩
   have HO3 := Lib.hid ho3
   have HB3 := Lib.hid (HB2.out.trans (hb3.mono HB2.out.size))
   clear ho3 hb3 HB2
   go_wp2_with fail
   refine (HEd.out _).mono ?_
   rintro e4 w2 ⟨v4, rfl, ho4, hb4⟩
   have HL := Lib.hid (ownV_below HO3.out hb4)
   have HM := Lib.hid ho4
   have HB4 := Lib.hid (HB3.out.trans (hb4.mono HB3.out.size))
   clear ho4 hb4 HB3 HO3
   obtain ⟨A1, k1, rfl⟩ := ownV_slice HL.out
   obtain ⟨A2, k2, rfl⟩ := ownV_slice HM.out
   by_cases hlt : L.length < M.length
   ·have f1 : (L.length : Int) < M.length := by omega
    have HE : Hid (R = false) := Lib.hid (by
     rw [← HR.out]
     refine decide_eq_false fun h => ?_
     have := h.2.2.1
     rw [List.length_map, List.length_map] at this
     omega)
    go_wp2
    go_ret
    exact ⟨by rw [HE.out] <;> rfl, HB4.out⟩
   ·have f1 : ¬ (L.length : Int) < M.length := by omega
    go_wp2
    go_loopw [7] (fun x wr => ∃ i : Nat, i ≤ M.length ∧ x = .int .i64 (i : Int) ∧ Below w2.heap.size w2 wr ∧ (L.map strB).take i = (M.map strB).take i) (fun x _ => M.length - (intOf x).toNat)
    case atStart => exact ⟨0, by omega, rfl, Below.refl _ _, rfl⟩
    case round =>
     obtain ⟨i, hi, rfl, hB, hq⟩ := hrel
     have HB := Lib.hid hB
     have HQ := Lib.hid hq
     clear hB hq
     by_cases h : i < M.length
     ·have hiI : (i : Int) < M.length := by omega
      have hiL : (i : Int) < L.length := by omega
      have hMi : i < M.length := h
      have hLi : i < L.length := by omega
      obtain ⟨p, hp⟩ : ∃ p, L[i]? = some p := ⟨_, List.getElem?_eq_getElem hLi⟩
      obtain ⟨q, hq⟩ : ∃ q, M[i]? = some q := ⟨_, List.getElem?_eq_getElem hMi⟩
      obtain ⟨g1, k1, e8, _⟩ := ownV_at HL.out (by omega)
      obtain ⟨g2, k2, e9, _⟩ := ownV_at HM.out (by omega)
      cases e8
      cases e9
      have c1 : w2.cell? ⟨g1, i, none⟩ = some (.string (strB p)) := by
       rw [HL.out.cellAt i (by omega), strsV, List.getElem?_map, hp]
       rfl
      have c2 : w2.cell? ⟨g2, i, none⟩ = some (.string (strB q)) := by
       rw [HM.out.cellAt i (by omega), strsV, List.getElem?_map, hq]
       rfl
      have c1 := cell_below HB.out c1
      have c2 := cell_below HB.out c2
      have Hp : Hid ((L.map strB)[i]? = some (strB p)) := Lib.hid (by rw [List.getElem?_map, hp]; rfl)
      have Hq : Hid ((M.map strB)[i]? = some (strB q)) := Lib.hid (by rw [List.getElem?_map, hq]; rfl)
      clear hp hq hLi hMi
      generalize strB p = X at *
      generalize strB q = Y at *
      by_cases hxy : X = Y
      ·subst hxy
       have b1 : (X != X) = false := bneV_false rfl
       have b2 : (X == X) = true := beqV_true rfl
       have HN : Hid ((L.map strB).take (i + 1) = (M.map strB).take (i + 1)) := Lib.hid (by rw [List.take_add_one, List.take_add_one, Hp.out, Hq.out, HQ.out])
       go_upto_region 9 with fail
       go_quiet (fail)
       go_wp2
       go_roundw
       case rel => exact ⟨i + 1, by omega, by go_num, blwN HB.out _, HN.out⟩
       case measure => simp [intOf]; omega
      ·have b1 : (X != Y) = true := bneV_true hxy
       have b2 : (X == Y) = false := beqV_false hxy
       have b3 : ¬ X.toList = Y.toList := fun e => hxy (by rw [ByteArray.toList_eq, ByteArray.toList_eq] at e; exact ByteArray.ext (Array.toList_inj.1 e))
       have b4 : (X.toList == Y.toList) = false := by rw [beq_eq_false_iff_ne]; exact b3
       have HE : Hid (R = false) := Lib.hid (by
        rw [← HR.out]
        refine decide_eq_false fun h' => hxy ?_
        have h5 := h'.2.2.2
        rw [List.length_map] at h5
        have h6 : ((L.map strB).take M.length)[i]? = some Y := by rw [h5]; exact Hq.out
        rw [List.getElem?_take_of_lt h, Hp.out] at h6
        exact Option.some.inj h6)
       clear hxy
       go_upto_region 9 with fail
       go_quiet (fail)
       go_wp2
       go_ret
       exact ⟨by rw [HE.out] <;> rfl, HB4.out.trans ((blwN HB.out _).mono HB4.out.size)⟩
     ·have hiI : ¬ (i : Int) < M.length := by omega
      have HE : Hid (R = true) := Lib.hid (by
       rw [← HR.out]
       have hiM : i = M.length := by omega
       refine decide_eq_true ⟨by first | rfl | trivial, by first | rfl | trivial, by rw [List.length_map, List.length_map]; omega, ?_⟩
       have h5 := HQ.out
       rw [hiM] at h5
       rw [List.length_map, h5, List.take_of_length_le (by rw [List.length_map]; omega)])
      go_wp2
      go_ret
      exact ⟨by rw [HE.out] <;> rfl, HB4.out.trans (HB.out.mono HB4.out.size)⟩
  ·have hne : (Q != 0) = true := by rw [bne_iff_ne]; exact h1
   have HE : Hid (R = false) := Lib.hid (by rw [← HR.out]; exact decide_eq_false fun h => h1 h.2.1)
   go_wp2_with fail
   go_ret
   exact ⟨by rw [HE.out] <;> rfl, HB2.out⟩
 ·have hne : (P != 0) = true := by rw [bne_iff_ne]; exact h0
  have HE : Hid (R = false) := Lib.hid (by rw [← HR.out]; exact decide_eq_false fun h => h0 h.1)
  go_wp2_with fail
  first | (refine ⟨trivial, ?_⟩; go_wp2_with fail) | skip
  go_ret
  exact ⟨by rw [HE.out] <;> rfl, HB1.out⟩
theorem compare31_ex (w : World) (s d : ByteArray) (hs : s.size ≤ 1000000) (hd : d.size ≤ 1000000) : Calls Tryz.prog 136 #[.string s, .string d] w fun e w' => e = .returned (.int .i64 (pcmp s d)) ∧ Below w.heap.size w w' := by
 have HEs := Lib.hid (fun W => elems_any W s hs)
 have HEd := Lib.hid (fun W => elems_any W d hd)
 have hl1 := (elemsL_size (s := bs s)).2
 have hl2 := (elemsL_size (s := bs d)).2
 rw [bs_len] at hl1 hl2
 obtain ⟨R, hR⟩ : ∃ R, pcmp s d = R := ⟨_, rfl⟩
 rw [hR]
 unfold pcmp elemsB at hR
 generalize elemsL (bs s) = L at *
 generalize elemsL (bs d) = M at *
 have HR := Lib.hid hR
 clear hR
 go_enter Tryz.func136, Tryz.ntmps136
 go_wp2_with fail
 refine (HEs.out _).mono ?_
 rintro e3 w3 ⟨v3, rfl, ho3, hb3⟩
 have HO3 := Lib.hid ho3
 have HB3 := Lib.hid hb3
 clear ho3 hb3
 go_wp2_with fail
 refine (HEd.out _).mono ?_
 rintro e4 w2 ⟨v4, rfl, ho4, hb4⟩
 have HL := Lib.hid (ownV_below HO3.out hb4)
 have HM := Lib.hid ho4
 have HB4 := Lib.hid (HB3.out.trans (hb4.mono HB3.out.size))
 clear ho4 hb4 HB3 HO3
 obtain ⟨A1, k1, rfl⟩ := ownV_slice HL.out
 obtain ⟨A2, k2, rfl⟩ := ownV_slice HM.out
 go_wp2
 go_loopw [7] (fun x wr => ∃ i : Nat, i ≤ L.length ∧ i ≤ M.length ∧ x = .int .i64 (i : Int) ∧ Below w2.heap.size w2 wr ∧ cmpPath ((L.map strB).drop i) ((M.map strB).drop i) = R) (fun x _ => M.length - (intOf x).toNat)
 case atStart => exact ⟨0, by omega, by omega, rfl, Below.refl _ _, HR.out⟩
 case round =>
  obtain ⟨i, hiL1, hi, rfl, hB, hq⟩ := hrel
  have HB := Lib.hid hB
  have HQ := Lib.hid hq
  clear hB hq
  by_cases h : i < L.length ∧ i < M.length
  ·have hiI : (i : Int) < M.length := by omega
   have hiL : (i : Int) < L.length := by omega
   have hMi : i < M.length := h.2
   have hLi : i < L.length := h.1
   clear h
   obtain ⟨p, hp⟩ : ∃ p, L[i]? = some p := ⟨_, List.getElem?_eq_getElem hLi⟩
   obtain ⟨q, hq⟩ : ∃ q, M[i]? = some q := ⟨_, List.getElem?_eq_getElem hMi⟩
   obtain ⟨g1, k1, e8, _⟩ := ownV_at HL.out (by omega)
   obtain ⟨g2, k2, e9, _⟩ := ownV_at HM.out (by omega)
   cases e8
   cases e9
   have c1 : w2.cell? ⟨g1, i, none⟩ = some (.string (strB p)) := by
    rw [HL.out.cellAt i (by omega), strsV, List.getElem?_map, hp]
    rfl
   have c2 : w2.cell? ⟨g2, i, none⟩ = some (.string (strB q)) := by
    rw [HM.out.cellAt i (by omega), strsV, List.getElem?_map, hq]
    rfl
   have c1 := cell_below HB.out c1
   have c2 := cell_below HB.out c2
   have HD : Hid (R = if cmpB (strB p) (strB q) ≠ 0 then cmpB (strB p) (strB q) else cmpPath ((L.map strB).drop (i + 1)) ((M.map strB).drop (i + 1))) := Lib.hid (by
    rw [← HQ.out]
    exact cmpPath_drop (by rw [List.getElem?_map, hp]; rfl) (by rw [List.getElem?_map, hq]; rfl))
   clear hp hq hLi hMi
   generalize strB p = X at *
   generalize strB q = Y at *
   cases hB1 : Op.bytesLess X.toList Y.toList with
   | true =>
    have HE : Hid (R = -1) := Lib.hid (by rw [HD.out, cmpB_less hB1]; rfl)
    go_upto_region 5 with fail
    go_quiet (fail)
    go_wp2
    go_ret
    exact ⟨by rw [HE.out] <;> rfl, HB4.out.trans ((blwN HB.out _).mono HB4.out.size)⟩
   | false =>
    by_cases hxy : X = Y
    ·subst hxy
     have HE : Hid (cmpPath ((L.map strB).drop (i + 1)) ((M.map strB).drop (i + 1)) = R) := Lib.hid (by rw [HD.out, cmpB_self]; rfl)
     go_upto_region 5 with fail
     go_quiet (fail)
     go_upto_region 7 with fail
     go_quiet (fail)
     go_wp2
     go_roundw
     case rel => exact ⟨i + 1, by omega, by omega, by go_num, by first | exact blwN HB.out _ | exact blwN (blwN HB.out _) _, HE.out⟩
     case measure => simp [intOf]; omega
    ·have b3 : ¬ X.toList = Y.toList := fun e => hxy (by rw [ByteArray.toList_eq, ByteArray.toList_eq] at e; exact ByteArray.ext (Array.toList_inj.1 e))
     have b4 : (X.toList == Y.toList) = false := by rw [beq_eq_false_iff_ne]; exact b3
     have HE : Hid (R = 1) := Lib.hid (by rw [HD.out, cmpB_more hB1 hxy]; rfl)
     clear hxy
     go_upto_region 5 with fail
     go_quiet (fail)
     go_upto_region 7 with fail
     go_quiet (fail)
     go_wp2
     go_ret
     exact ⟨by rw [HE.out] <;> rfl, HB4.out.trans (Below.mono (by first | exact blwN HB.out _ | exact blwN (blwN HB.out _) _) HB4.out.size)⟩
  ·have hz : ¬ (i : Int) < L.length ∨ ((i : Int) < L.length ∧ ¬ (i : Int) < M.length) := by omega
   have HE : Hid (R = if L.length < M.length then -1 else if M.length < L.length then 1 else 0) := Lib.hid (by
    have h6 := cmpPath_end (l := L.map strB) (m := M.map strB) (i := i) (by rw [List.length_map]; exact hiL1) (by rw [List.length_map]; exact hi) (by rw [List.length_map, List.length_map]; exact h)
    rw [List.length_map, List.length_map] at h6
    rw [← HQ.out, h6])
   clear h
   rcases hz with f1 | ⟨f1, f2⟩
   all_goals
    by_cases g1 : L.length < M.length
    ·have g2 : (L.length : Int) < M.length := by omega
     have HF : Hid (R = -1) := Lib.hid (by rw [HE.out, if_pos g1])
     go_wp2
     go_ret
     exact ⟨by rw [HF.out] <;> rfl, HB4.out.trans (HB.out.mono HB4.out.size)⟩
    ·have g2 : ¬ (L.length : Int) < M.length := by omega
     by_cases g3 : M.length < L.length
     ·have g4 : (M.length : Int) < L.length := by omega
      have HF : Hid (R = 1) := Lib.hid (by rw [HE.out, if_neg g1, if_pos g3])
      go_wp2
      go_ret
      exact ⟨by rw [HF.out] <;> rfl, HB4.out.trans (HB.out.mono HB4.out.size)⟩
     ·have g4 : ¬ (M.length : Int) < L.length := by omega
      have HF : Hid (R = 0) := Lib.hid (by rw [HE.out, if_neg g1, if_neg g3])
      go_wp2
      go_ret
      exact ⟨by rw [HF.out] <;> rfl, HB4.out.trans (HB.out.mono HB4.out.size)⟩
end
end Go.Proofs.YtbccghbngaiceaaGreatDoor
