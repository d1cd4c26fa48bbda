/-
 PLAIN: what collect.Collect and its reference collect is one list.
-/
import Derived.Test.YtnlnmfkmbpihhaaGreatDoorCoQ
namespace Go.Proofs.YtnlnmfkmbpihhaaGreatDoor

/-- Strictly increasing. -/
def Srt (l : List Frm) : Prop := l.Pairwise fun x y => cmpF x y < 0
theorem cmp_irr {x y : Frm} (h1 : cmpF x y < 0) (h2 : cmpF y x < 0) : False := by
 have := (cmpF_tot.flip x y).1 h1
 omega
theorem srt_ext : ∀ l m : List Frm, Srt l → Srt m → (∀ y, y ∈ l ↔ y ∈ m) → l = m
 | [], [], _, _, _ => rfl
 | [], y :: s, _, _, h => by have := (h y).2 List.mem_cons_self; simp at this
 | x :: r, [], _, _, h => by have := (h x).1 List.mem_cons_self; simp at this
 | x :: r, y :: s, hl, hm, h => by
  obtain ⟨l1, l2⟩ := List.pairwise_cons.1 hl
  obtain ⟨m1, m2⟩ := List.pairwise_cons.1 hm
  have e : x = y := by
   rcases List.mem_cons.1 ((h x).1 List.mem_cons_self) with e | e
   ·exact e
   ·rcases List.mem_cons.1 ((h y).2 List.mem_cons_self) with e2 | e2
    ·exact e2.symm
    ·exact (cmp_irr (l1 y e2) (m1 x e)).elim
  subst e
  have irr : ∀ z, cmpF z z < 0 → False := fun z hz => cmp_irr hz hz
  rw [srt_ext r s l2 m2 fun z => ⟨fun hz => by
   rcases List.mem_cons.1 ((h z).1 (List.mem_cons_of_mem _ hz)) with e | e
   ·subst e; exact (irr _ (l1 _ hz)).elim
   ·exact e, fun hz => by
   rcases List.mem_cons.1 ((h z).2 (List.mem_cons_of_mem _ hz)) with e | e
   ·subst e; exact (irr _ (m1 _ hz)).elim
   ·exact e⟩]
/-- A frame set in its place. -/
def insS (f : Frm) : List Frm → List Frm
 | [] => [f]
 | o :: r => if lesF f o then f :: o :: r else o :: insS f r
theorem insG_true (f : Frm) : ∀ (l z : List Frm), l.foldl (insG f) (true, z) = (true, z ++ l)
 | [], z => by simp
 | o :: r, z => by
  rw [List.foldl_cons, show insG f (true, z) o = (true, z ++ [o]) from rfl, insG_true f r]
  simp
theorem insG_false (f : Frm) : ∀ (l z : List Frm), (if (l.foldl (insG f) (false, z)).1 then (l.foldl (insG f) (false, z)).2 else (l.foldl (insG f) (false, z)).2 ++ [f]) = z ++ insS f l
 | [], z => by simp [insS]
 | o :: r, z => by
  rw [List.foldl_cons, insS]
  cases hq : lesF f o with
  | true =>
   have e : insG f (false, z) o = (true, z ++ [f] ++ [o]) := by unfold insG; rw [hq]; rfl
   rw [e, insG_true, if_pos rfl, if_pos rfl]
   simp
  | false =>
   have e : insG f (false, z) o = (false, z ++ [o]) := by unfold insG; rw [hq]; rfl
   rw [e, insG_false f r, if_neg (by simp)]
   simp
theorem insFr_eq (f : Frm) (l : List Frm) : insFr f l = if f ∈ l then l else insS f l := by
 unfold insFr
 split
 ·rfl
 ·rw [insG_false f l []]
  rfl
theorem insS_mem (f y : Frm) : ∀ l : List Frm, y ∈ insS f l ↔ y = f ∨ y ∈ l
 | [] => by simp [insS]
 | o :: r => by
  rw [insS]
  split
  ·simp
  ·rw [List.mem_cons, insS_mem f y r, List.mem_cons]
   constructor
   ·rintro (h | h | h)
    ·exact .inr (.inl h)
    ·exact .inl h
    ·exact .inr (.inr h)
   ·rintro (h | h | h)
    ·exact .inr (.inl h)
    ·exact .inl h
    ·exact .inr (.inr h)
theorem cmp_gt {f o : Frm} (ha : f.a = o.a) (hne : f ≠ o) (h : ¬ cmpF f o < 0) : cmpF o f < 0 := by
 have h1 : cmpF f o ≠ 0 := fun e => hne (cmpF_zero ha e)
 exact (cmpF_tot.flip o f).2 (by omega)
theorem insS_srt (f : Frm) : ∀ l : List Frm, Srt l → f ∉ l → (∀ y ∈ l, y.a = f.a) → Srt (insS f l)
 | [], _, _, _ => List.pairwise_singleton _ _
 | o :: r, hl, hn, ha => by
  obtain ⟨l1, l2⟩ := List.pairwise_cons.1 hl
  rw [insS]
  split
  ·next hq =>
   rw [lesF_cmp, decide_eq_true_iff] at hq
   refine List.pairwise_cons.2 ⟨fun y hy => ?_, hl⟩
   rcases List.mem_cons.1 hy with rfl | hy
   ·exact hq
   ·exact cmpF_tot.trans _ _ _ hq (l1 y hy)
  ·next hq =>
   rw [lesF_cmp, decide_eq_true_iff] at hq
   refine List.pairwise_cons.2 ⟨fun y hy => ?_, insS_srt f r l2 (fun h => hn (List.mem_cons_of_mem _ h)) fun y hy => ha y (List.mem_cons_of_mem _ hy)⟩
   rcases (insS_mem f y r).1 hy with rfl | hy
   ·exact cmp_gt (ha o List.mem_cons_self).symm (fun e => hn (e ▸ List.mem_cons_self)) hq
   ·exact l1 y hy
/-- The archive's frames among sightings. -/
def Of (ar : Int) (xs : List Sgt) (y : Frm) : Prop := ∃ x ∈ xs, x.f.a = ar ∧ x.f = y
theorem collS_spec (ar : Int) : ∀ (xs : List Sgt) (l : List Frm), Srt l → (∀ y ∈ l, y.a = ar) → Srt (xs.foldl (collS ar) l) ∧ ∀ y, y ∈ xs.foldl (collS ar) l ↔ y ∈ l ∨ Of ar xs y
 | [], l, h, _ => ⟨h, fun y => by simp [Of]⟩
 | x :: r, l, h, ha => by
  rw [List.foldl_cons]
  by_cases e : x.f.a = ar
  ·have e1 : collS ar l x = insFr x.f l := by unfold collS; rw [if_pos e]
   have hm : ∀ y, y ∈ insFr x.f l ↔ y = x.f ∨ y ∈ l := fun y => by
    rw [insFr_eq]
    split
    ·next hin => exact ⟨.inr, fun h => h.elim (fun e => e ▸ hin) id⟩
    ·exact insS_mem _ _ _
   have hs : Srt (insFr x.f l) := by
    rw [insFr_eq]
    split
    ·exact h
    ·next hn => exact insS_srt _ _ h hn fun y hy => by rw [ha y hy, e]
   have hr := collS_spec ar r (insFr x.f l) hs fun y hy => by
    rcases (hm y).1 hy with rfl | hy
    ·exact e
    ·exact ha y hy
   rw [e1]
   refine ⟨hr.1, fun y => (hr.2 y).trans ?_⟩
   rw [hm]
   constructor
   ·rintro ((rfl | h) | ⟨z, hz, h1, h2⟩)
    ·exact .inr ⟨x, List.mem_cons_self, e, rfl⟩
    ·exact .inl h
    ·exact .inr ⟨z, List.mem_cons_of_mem _ hz, h1, h2⟩
   ·rintro (h | ⟨z, hz, h1, h2⟩)
    ·exact .inl (.inr h)
    ·rcases List.mem_cons.1 hz with rfl | hz
     ·exact .inl (.inl h2.symm)
     ·exact .inr ⟨z, hz, h1, h2⟩
  ·have e1 : collS ar l x = l := by unfold collS; rw [if_neg e]
   rw [e1]
   have hr := collS_spec ar r l h ha
   refine ⟨hr.1, fun y => (hr.2 y).trans ⟨?_, ?_⟩⟩
   ·rintro (h | ⟨z, hz, h1, h2⟩)
    ·exact .inl h
    ·exact .inr ⟨z, List.mem_cons_of_mem _ hz, h1, h2⟩
   ·rintro (h | ⟨z, hz, h1, h2⟩)
    ·exact .inl h
    ·rcases List.mem_cons.1 hz with rfl | hz
     ·exact (e h1).elim
     ·exact .inr ⟨z, hz, h1, h2⟩
theorem dis_spec (ar : Int) : ∀ (xs : List Sgt) (l : List Frm), l.Nodup → (xs.foldl (dis ar) l).Nodup ∧ ∀ y, y ∈ xs.foldl (dis ar) l ↔ y ∈ l ∨ Of ar xs y
 | [], l, h => ⟨h, fun y => by simp [Of]⟩
 | x :: r, l, h => by
  rw [List.foldl_cons]
  have hm : ∀ y, y ∈ dis ar l x ↔ y ∈ l ∨ (x.f.a = ar ∧ x.f = y) := fun y => by
   unfold dis
   split
   ·next e =>
    split
    ·next hin => exact ⟨.inl, fun h => h.elim id fun h => h.2 ▸ hin⟩
    ·simp [e, eq_comm]
   ·next e => simp [e]
  have hs : (dis ar l x).Nodup := by
   unfold dis
   split
   ·split
    ·exact h
    ·next hn => exact List.nodup_append.2 ⟨h, by simp, fun a ha b hb => by simp at hb; subst hb; exact fun e => hn (e ▸ ha)⟩
   ·exact h
  have hr := dis_spec ar r _ hs
  refine ⟨hr.1, fun y => (hr.2 y).trans ?_⟩
  rw [hm]
  constructor
  ·rintro ((h | ⟨h1, h2⟩) | ⟨z, hz, h1, h2⟩)
   ·exact .inl h
   ·exact .inr ⟨x, List.mem_cons_self, h1, h2⟩
   ·exact .inr ⟨z, List.mem_cons_of_mem _ hz, h1, h2⟩
  ·rintro (h | ⟨z, hz, h1, h2⟩)
   ·exact .inl (.inl h)
   ·rcases List.mem_cons.1 hz with rfl | hz
    ·exact .inl (.inr ⟨h1, h2⟩)
    ·exact .inr ⟨z, hz, h1, h2⟩
/-- What is collected: the archive's different frames, in order. -/
def collF (ar : Int) (xs : List Sgt) : List Frm := xs.foldl (collS ar) []
theorem collF_spec (ar : Int) (xs : List Sgt) : Srt (collF ar xs) ∧ ∀ y, y ∈ collF ar xs ↔ Of ar xs y := by
 have h := collS_spec ar xs [] List.Pairwise.nil (fun y hy => by cases hy)
 exact ⟨h.1, fun y => (h.2 y).trans (by simp)⟩
theorem sorted_collF {ar : Int} {xs : List Sgt} {l2 : List Frm} (hp : l2.Perm (xs.foldl (dis ar) [])) (hs : l2.Pairwise fun x y => ltOf cmpF y x = false) : l2 = collF ar xs := by
 have hd := dis_spec ar xs [] List.nodup_nil
 have hn : l2.Nodup := hp.nodup_iff.2 hd.1
 have hm : ∀ y, y ∈ l2 ↔ Of ar xs y := fun y => hp.mem_iff.trans ((hd.2 y).trans (by simp))
 refine srt_ext _ _ ?_ (collF_spec ar xs).1 fun y => (hm y).trans ((collF_spec ar xs).2 y).symm
 unfold Srt
 refine (List.Pairwise.and hs hn).imp_of_mem fun {x y} hx hy h => ?_
 obtain ⟨_, _, a1, e1⟩ := (hm x).1 hx
 obtain ⟨_, _, a2, e2⟩ := (hm y).1 hy
 have ha : y.a = x.a := by rw [← e1, ← e2, a1, a2]
 have h1 : ¬ cmpF y x < 0 := by
  have := h.1
  unfold ltOf at this
  simpa using this
 exact cmp_gt ha (fun e => h.2 e.symm) h1
end Go.Proofs.YtnlnmfkmbpihhaaGreatDoor
