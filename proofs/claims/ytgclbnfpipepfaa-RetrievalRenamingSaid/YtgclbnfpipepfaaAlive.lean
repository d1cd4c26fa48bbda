/-
  WALK: the law's own example (alive) of layer 56.
-/
import Derived.Test.YtgclbnfpipepfaaPlainA
namespace Go.Proofs.Ytgclbnfpipepfaa
open Go.RowKit

def exRows : List (List Bool) := [[true], [true], [true]]
theorem ex1 : planB 1 [5, 3, 3] exRows = .ok [1] := by rfl
theorem ex2 : planB 2 [5, 3, 3] exRows = .ok [1, 2] := by rfl

theorem SlAt.new {α : Type} {R : World → Value → α → Prop} {w W : World} (us : List Value) (xs : List α) (t : TypeId) (n g : Nat) (hW : W = w.alloc (.cells us.toArray t)) (hg : g = w.heap.size) (hu : us.length = n) (hx : xs.length = n) (hn : n ≤ 9223372036854775807)
    (h : ∀ (i : Nat) u x, us[i]? = some u → xs[i]? = some x → R W u x) : SlAt R W (.slice (some ⟨g, 0, none⟩) n n) xs := by
  subst hg
  refine ⟨some ⟨w.heap.size, 0, none⟩, n, by rw [hx], by omega, hn, fun i x hi => ?_⟩
  have hl := (List.getElem?_eq_some_iff.1 hi).1
  have hui : us[i]? = some us[i] := List.getElem?_eq_getElem (by omega)
  refine ⟨w.heap.size, 0, us[i], rfl, ?_, h i _ x hui hi⟩
  rw [hW, Nat.zero_add, World.cell?_alloc_at _ _ _ _ rfl]
  simp
theorem ints_new {w W : World} (xs : List Int) (n g : Nat) (hW : W = w.alloc (.cells (xs.map intV).toArray 3)) (hg : g = w.heap.size) (hx : xs.length = n) (hn : n ≤ 9223372036854775807) : IntsAt W (.slice (some ⟨g, 0, none⟩) n n) xs :=
  SlAt.new (xs.map intV) xs 3 n g hW hg (by simpa using hx) hx hn fun i u x hu hx => by
    rw [List.getElem?_map, hx] at hu
    cases hu
    rfl
theorem bools_new {w W : World} (xs : List Bool) (n g : Nat) (hW : W = w.alloc (.cells (xs.map boolV).toArray 4)) (hg : g = w.heap.size) (hx : xs.length = n) (hn : n ≤ 9223372036854775807) : BoolsAt W (.slice (some ⟨g, 0, none⟩) n n) xs :=
  SlAt.new (xs.map boolV) xs 4 n g hW hg (by simpa using hx) hx hn fun i u x hu hx => by
    rw [List.getElem?_map, hx] at hu
    cases hu
    rfl
theorem BoolsAt.alloc {w : World} {v : Value} {m : List Bool} (h : BoolsAt w v m) (o : Obj) : BoolsAt (w.alloc o) v m := h.below ((Below.refl _ w).alloc (Nat.le_refl _) o)

theorem exRows_at (w : World) : RowsAt ((((w.alloc (.cells #[.bool true] 4)).alloc (.cells #[.bool true] 4)).alloc (.cells #[.bool true] 4)).alloc (.cells #[.slice (some ⟨w.heap.size, 0, none⟩) 1 1, .slice (some ⟨w.heap.size + 1, 0, none⟩) 1 1, .slice (some ⟨w.heap.size + 1 + 1, 0, none⟩) 1 1] 37))
    (.slice (some ⟨w.heap.size + 1 + 1 + 1, 0, none⟩) 3 3) exRows := by
  have b0 := bools_new (w := w) [true] 1 w.heap.size rfl rfl rfl (by omega)
  have b1 := bools_new (w := w.alloc (.cells #[.bool true] 4)) [true] 1 (w.heap.size + 1) rfl (by simp) rfl (by omega)
  have b2 := bools_new (w := (w.alloc (.cells #[.bool true] 4)).alloc (.cells #[.bool true] 4)) [true] 1 (w.heap.size + 1 + 1) rfl (by simp) rfl (by omega)
  refine SlAt.new _ _ 37 3 _ rfl (by simp) rfl rfl (by omega) fun i u x hu hx => ?_
  match i, hu, hx with
  | 0, hu, hx => cases hu; cases hx; exact ((BoolsAt.alloc (BoolsAt.alloc (BoolsAt.alloc b0 _) _) _))
  | 1, hu, hx => cases hu; cases hx; exact ((BoolsAt.alloc (BoolsAt.alloc b1 _) _))
  | 2, hu, hx => cases hu; cases hx; exact (BoolsAt.alloc b2 _)
  | i + 3, hu, _ => simp at hu

set_option maxHeartbeats 1000000 in
theorem alive_any (w : World) : Calls Try.prog 10 #[] w fun e w' => e = .returned (.bool true) ∧ Below w.heap.size w w' := by
  have hrows := exRows_at w
  obtain ⟨W1, hW1⟩ : ∃ W1, (((w.alloc (.cells #[.bool true] 4)).alloc (.cells #[.bool true] 4)).alloc (.cells #[.bool true] 4)).alloc (.cells #[.slice (some ⟨w.heap.size, 0, none⟩) 1 1, .slice (some ⟨w.heap.size + 1, 0, none⟩) 1 1, .slice (some ⟨w.heap.size + 1 + 1, 0, none⟩) 1 1] 37) = W1 := ⟨_, rfl⟩
  rw [hW1] at hrows
  have hB1 : Below w.heap.size w W1 := by rw [← hW1]; exact ((((Below.refl _ _).alloc (Nat.le_refl _) _).alloc (by simp) _).alloc (by simp; omega) _).alloc (by simp; omega) _
  have hsz1 : W1.heap.size = w.heap.size + 1 + 1 + 1 + 1 := by rw [← hW1]; simp
  have hi2 := ints_new (w := W1) [5, 3, 3] 3 (w.heap.size + 1 + 1 + 1 + 1) rfl hsz1.symm rfl (by omega)
  have hb2 : Below W1.heap.size W1 (W1.alloc (.cells #[.int .i64 5, .int .i64 3, .int .i64 3] 3)) := (Below.refl _ _).alloc (Nat.le_refl _) _
  have hp1 := rplan_any (W1.alloc (.cells #[.int .i64 5, .int .i64 3, .int .i64 3] 3)) 1 _ _ [5, 3, 3] exRows hi2 (RowsAt.below hrows hb2) (by decide)
  rw [ex1] at hp1
  have Hp1 := Lib.hid hp1
  have Hrows := Lib.hid hrows
  have HB1 := Lib.hid hB1
  clear hp1 hrows hB1 hi2 hb2
  go_enter Try.func10, Try.ntmps10
  go_wp2_with fail
  refine Hp1.out.mono ?_
  rintro e w2 ⟨v1, rfl, hv1, hb1⟩
  have hb1' : Below w.heap.size w w2 := (HB1.out.alloc HB1.out.size _).trans (hb1.mono (by have := HB1.out.size; simp; omega))
  have hrows2 := RowsAt.below Hrows.out (((Below.refl _ W1).alloc (Nat.le_refl _) (.cells #[.int .i64 5, .int .i64 3, .int .i64 3] 3)).trans (hb1.mono (by simp)))
  have hi3 := ints_new (w := w2) [5, 3, 3] 3 w2.heap.size rfl rfl rfl (by omega)
  have hb3 : Below w2.heap.size w2 (w2.alloc (.cells #[.int .i64 5, .int .i64 3, .int .i64 3] 3)) := (Below.refl _ _).alloc (Nat.le_refl _) _
  have hp2 := rplan_any (w2.alloc (.cells #[.int .i64 5, .int .i64 3, .int .i64 3] 3)) 2 _ _ [5, 3, 3] exRows hi3 (RowsAt.below hrows2 hb3) (by decide)
  rw [ex2] at hp2
  have Hp2 := Lib.hid hp2
  have Hv1 := Lib.hid hv1
  have Hb1 := Lib.hid hb1'
  clear hp2 hrows2 hi3 hb3 hb1 hb1' hv1
  go_wp2_with fail
  refine Hp2.out.mono ?_
  rintro e w3 ⟨v2, rfl, hv2, hb2⟩
  have hb2' : Below w2.heap.size w2 w3 := ((Below.refl _ _).alloc (Nat.le_refl _) _).trans (hb2.mono (by simp))
  have Hv2 := Lib.hid hv2
  have Hb2 := Lib.hid hb2'
  have hs1 := same_any (w3.alloc (.cells #[.int .i64 1] 3)) v1 (.slice (some ⟨w3.heap.size, 0, none⟩) 1 1) [1] [1] ((IntsAt.below Hv1.out hb2').alloc _) (ints_new [1] 1 _ rfl rfl rfl (by omega))
  have Hs1 := Lib.hid hs1
  clear hs1 hv2 hb2 hb2'
  go_wp2_with fail
  refine Hs1.out.mono ?_
  rintro e w4 ⟨rfl, n4, rfl⟩
  have hs2 := same_any (((w3.alloc (.cells #[.int .i64 1] 3)).drewN n4).alloc (.cells #[.int .i64 1, .int .i64 2] 3)) v2 (.slice (some ⟨w3.heap.size + 1, 0, none⟩) 2 2) [1, 2] [1, 2]
    (IntsAt.alloc (w := (w3.alloc (.cells #[.int .i64 1] 3)).drewN n4) (IntsAt.alloc Hv2.out (.cells #[.int .i64 1] 3)) _) (ints_new (w := (w3.alloc (.cells #[.int .i64 1] 3)).drewN n4) [1, 2] 2 _ rfl (by simp) rfl (by omega))
  have Hs2 := Lib.hid hs2
  clear hs2
  go_wp2_with fail
  refine Hs2.out.mono ?_
  rintro e w5 ⟨rfl, n5, rfl⟩
  have he : sameB [1] [1] = true := rfl
  have he2 : sameB [1, 2] [1, 2] = true := rfl
  go_wp2
  go_ret
  refine ⟨rfl, below_drewN ?_ _⟩
  exact (below_drewN ((Hb1.out.trans (Hb2.out.mono Hb1.out.size)).alloc (Nat.le_trans Hb1.out.size Hb2.out.size) _) _).alloc (by simp; have h1 := Hb1.out.size; have h2 := Hb2.out.size; omega) _

end Go.Proofs.Ytgclbnfpipepfaa
