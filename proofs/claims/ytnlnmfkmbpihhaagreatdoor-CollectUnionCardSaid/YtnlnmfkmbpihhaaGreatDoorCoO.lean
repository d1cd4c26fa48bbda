/-
 PLAIN: the order of frames.
-/
import Derived.Test.YtnlnmfkmbpihhaaGreatDoorCoC
import Derived.Sort.Statements
namespace Go.Proofs.YtnlnmfkmbpihhaaGreatDoor
open Go.RowKit

/-- A comparison that is a linear order up to 0. -/
structure Tot {α : Type} (c : α → α → Int) : Prop where
 flip : ∀ x y, c x y < 0 ↔ 0 < c y x
 trans : ∀ x y z, c x y < 0 → c y z < 0 → c x z < 0
 zero : ∀ x y z, c x y = 0 → c y z = 0 → c x z = 0
 left : ∀ x y z, c x y = 0 → c y z < 0 → c x z < 0
 right : ∀ x y z, c x y < 0 → c y z = 0 → c x z < 0
theorem Tot.zflip {α : Type} {c : α → α → Int} (h : Tot c) {x y : α} (e : c x y = 0) : c y x = 0 := by
 have h1 := h.flip x y
 have h2 := h.flip y x
 omega
theorem Tot.refl {α : Type} {c : α → α → Int} (h : Tot c) (x : α) : c x x = 0 := by
 have h1 := h.flip x x
 omega
/-- First one comparison, then another. -/
def lexC {α : Type} (c d : α → α → Int) (x y : α) : Int := if c x y ≠ 0 then c x y else d x y
theorem lexC_tot {α : Type} {c d : α → α → Int} (hc : Tot c) (hd : Tot d) : Tot (lexC c d) where
 flip x y := by
  have h1 := hc.flip x y
  have h2 := hc.flip y x
  have h3 := hd.flip x y
  have h4 := hd.flip y x
  unfold lexC
  split <;> split <;> omega
 trans x y z := by
  have a1 := hc.trans x y z
  have a2 := hc.zero x y z
  have a3 := hc.left x y z
  have a4 := hc.right x y z
  have b1 := hd.trans x y z
  unfold lexC
  split <;> split <;> split <;> omega
 zero x y z := by
  have a2 := hc.zero x y z
  have b1 := hd.zero x y z
  unfold lexC
  split <;> split <;> split <;> omega
 left x y z := by
  have a2 := hc.zero x y z
  have a3 := hc.left x y z
  have b1 := hd.left x y z
  unfold lexC
  split <;> split <;> split <;> omega
 right x y z := by
  have a2 := hc.zero x y z
  have a4 := hc.right x y z
  have b1 := hd.right x y z
  unfold lexC
  split <;> split <;> split <;> omega
theorem cmpInt_lt {x y : Int} : Lib.compareInt x y < 0 ↔ x < y := by
 unfold Lib.compareInt
 split
 ·omega
 ·split <;> omega
theorem cmpInt_gt {x y : Int} : 0 < Lib.compareInt x y ↔ y < x := by
 unfold Lib.compareInt
 split
 ·omega
 ·split <;> omega
theorem cmpInt_zero {x y : Int} : Lib.compareInt x y = 0 ↔ x = y := by
 unfold Lib.compareInt
 split
 ·omega
 ·split <;> omega
theorem int_tot {α : Type} (f : α → Int) : Tot fun x y => Lib.compareInt (f x) (f y) where
 flip x y := by rw [cmpInt_lt, cmpInt_gt]
 trans x y z := by rw [cmpInt_lt, cmpInt_lt, cmpInt_lt]; omega
 zero x y z := by rw [cmpInt_zero, cmpInt_zero, cmpInt_zero]; omega
 left x y z := by rw [cmpInt_zero, cmpInt_lt, cmpInt_lt]; omega
 right x y z := by rw [cmpInt_lt, cmpInt_zero, cmpInt_lt]; omega
theorem u8_lt (a b : UInt8) : a < b ↔ a.toNat < b.toNat := Iff.rfl
theorem bytes_flip : ∀ x y : List UInt8, Lib.compareBytes x y < 0 ↔ 0 < Lib.compareBytes y x
 | [], [] => by simp [Lib.compareBytes]
 | [], _ :: _ => by simp [Lib.compareBytes]
 | _ :: _, [] => by simp [Lib.compareBytes]
 | a :: x, b :: y => by
  have ih := bytes_flip x y
  unfold Lib.compareBytes
  simp only [u8_lt]
  repeat' split
  all_goals omega
theorem bytes_zero : ∀ x y : List UInt8, Lib.compareBytes x y = 0 ↔ x = y
 | [], [] => by simp [Lib.compareBytes]
 | [], _ :: _ => by simp [Lib.compareBytes]
 | _ :: _, [] => by simp [Lib.compareBytes]
 | a :: x, b :: y => by
  have ih := bytes_zero x y
  unfold Lib.compareBytes
  simp only [u8_lt]
  split
  ·simp only [List.cons.injEq]
   constructor
   ·intro h; omega
   ·rintro ⟨rfl, _⟩; omega
  ·split
   ·simp only [List.cons.injEq]
    constructor
    ·intro h; omega
    ·rintro ⟨rfl, _⟩; omega
   ·rw [ih, List.cons.injEq]
    have e : a = b := UInt8.toNat_inj.1 (by omega)
    simp [e]
theorem bytes_trans : ∀ x y z : List UInt8, Lib.compareBytes x y < 0 → Lib.compareBytes y z < 0 → Lib.compareBytes x z < 0
 | [], [], _, h, _ => by simp [Lib.compareBytes] at h
 | [], _ :: _, [], _, h => by simp [Lib.compareBytes] at h
 | [], _ :: _, _ :: _, _, _ => by simp [Lib.compareBytes]
 | _ :: _, [], _, h, _ => by simp [Lib.compareBytes] at h
 | _ :: _, _ :: _, [], _, h => by simp [Lib.compareBytes] at h
 | a :: x, b :: y, c :: z, h1, h2 => by
  have ih := bytes_trans x y z
  unfold Lib.compareBytes at h1 h2 ⊢
  simp only [u8_lt] at h1 h2 ⊢
  split at h1 <;> split at h2 <;> (try split at h1) <;> (try split at h2) <;> (repeat' split) <;> first | omega | exact ih h1 h2
theorem bytes_tot {α : Type} (f : α → List UInt8) : Tot fun x y => Lib.compareBytes (f x) (f y) where
 flip x y := bytes_flip _ _
 trans x y z := bytes_trans _ _ _
 zero x y z h1 h2 := by rw [bytes_zero] at *; rw [h1, h2]
 left x y z h1 h2 := by rw [bytes_zero] at h1; rw [h1]; exact h2
 right x y z h1 h2 := by rw [bytes_zero] at h2; rw [← h2]; exact h1
theorem orL_cons (x : Int) (r : List Int) : orL (x :: r) = if x ≠ 0 then x else orL r := rfl
theorem orL_one (x : Int) : orL [x] = x := by
 rw [orL_cons]
 by_cases h : x = 0
 ·rw [if_neg (by simpa using h), h]
  rfl
 ·rw [if_pos h]
theorem cmpF_lex (f g : Frm) : cmpF f g = lexC (fun f g : Frm => Lib.compareInt f.s g.s) (lexC (fun f g : Frm => Lib.compareInt f.k g.k) (lexC (fun f g : Frm => Lib.compareInt f.r g.r) (lexC (fun f g : Frm => Lib.compareInt f.i g.i) (lexC (fun f g : Frm => Lib.compareInt f.d g.d)
  (lexC (fun f g : Frm => Lib.compareInt f.p g.p) (lexC (fun f g : Frm => Lib.compareInt f.l g.l) (fun f g : Frm => Lib.compareBytes f.t.data.toList g.t.data.toList))))))) f g := by
 unfold cmpF
 rw [orL_cons, orL_cons, orL_cons, orL_cons, orL_cons, orL_cons, orL_cons, orL_one]
 rfl
theorem cmpF_tot : Tot cmpF := by
 have e : cmpF = lexC (fun f g : Frm => Lib.compareInt f.s g.s) (lexC (fun f g : Frm => Lib.compareInt f.k g.k) (lexC (fun f g : Frm => Lib.compareInt f.r g.r) (lexC (fun f g : Frm => Lib.compareInt f.i g.i) (lexC (fun f g : Frm => Lib.compareInt f.d g.d)
  (lexC (fun f g : Frm => Lib.compareInt f.p g.p) (lexC (fun f g : Frm => Lib.compareInt f.l g.l) (fun f g : Frm => Lib.compareBytes f.t.data.toList g.t.data.toList))))))) := funext fun f => funext fun g => cmpF_lex f g
 rw [e]
 exact lexC_tot (int_tot _) (lexC_tot (int_tot _) (lexC_tot (int_tot _) (lexC_tot (int_tot _) (lexC_tot (int_tot _) (lexC_tot (int_tot _) (lexC_tot (int_tot _) (bytes_tot _)))))))
/-- Frames of one archive that are neither less nor greater are one. -/
theorem cmpF_zero {f g : Frm} (ha : f.a = g.a) (h : cmpF f g = 0) : f = g := by
 rw [cmpF_lex] at h
 unfold lexC at h
 obtain ⟨k, r, s, i, l, d, p, a, ⟨⟨t⟩⟩⟩ := f
 obtain ⟨k', r', s', i', l', d', p', a', ⟨⟨t'⟩⟩⟩ := g
 dsimp only at h ha
 have h1 : Lib.compareInt s s' = 0 := by split at h <;> omega
 rw [if_neg (by simpa using h1)] at h
 have h2 : Lib.compareInt k k' = 0 := by split at h <;> omega
 rw [if_neg (by simpa using h2)] at h
 have h3 : Lib.compareInt r r' = 0 := by split at h <;> omega
 rw [if_neg (by simpa using h3)] at h
 have h4 : Lib.compareInt i i' = 0 := by split at h <;> omega
 rw [if_neg (by simpa using h4)] at h
 have h5 : Lib.compareInt d d' = 0 := by split at h <;> omega
 rw [if_neg (by simpa using h5)] at h
 have h6 : Lib.compareInt p p' = 0 := by split at h <;> omega
 rw [if_neg (by simpa using h6)] at h
 have h7 : Lib.compareInt l l' = 0 := by split at h <;> omega
 rw [if_neg (by simpa using h7)] at h
 rw [cmpInt_zero] at h1 h2 h3 h4 h5 h6 h7
 rw [bytes_zero] at h
 subst h1 h2 h3 h4 h5 h6 h7 ha h
 rfl
theorem Tot.swo {α : Type} {c : α → α → Int} (h : Tot c) : Sort.SWO (ltOf c) where
 irrefl x := by
  have := h.refl x
  unfold ltOf
  rw [decide_eq_false_iff_not]
  omega
 trans x y z h1 h2 := by
  unfold ltOf at *
  rw [decide_eq_true_iff] at *
  exact h.trans x y z h1 h2
 ntrans x y z h1 h2 := by
  unfold ltOf at *
  rw [decide_eq_false_iff_not] at *
  have a1 := h.flip x y
  have a2 := h.flip y z
  have a3 := h.flip x z
  have b1 := h.flip y x
  have b2 := h.flip z y
  have b3 := h.flip z x
  have c1 := h.trans z y x
  have c2 := h.zero z y x
  have c3 := h.left z y x
  have c4 := h.right z y x
  omega
end Go.Proofs.YtnlnmfkmbpihhaaGreatDoor
